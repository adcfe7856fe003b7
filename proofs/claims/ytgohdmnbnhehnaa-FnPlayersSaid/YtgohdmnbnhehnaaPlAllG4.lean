import Derived.Test.YtgohdmnbnhehnaaPlAllG3
import Derived.Test.YtgohdmnbnhehnaaPlAllG0
import Derived.StillTail
import Derived.Deep.RegionHeld3
import Derived.Test.YtgohdmnbnhehnaaPlAllG2
namespace Go.Proofs.Ytgohdmnbnhehnaa
set_option linter.unusedVariables false
set_option linter.unusedSimpArgs false
set_option maxRecDepth 100000
open Go.RowKit
def Bent (w : World) (cb : Nat) (e : Ending) (w' : World) : Prop :=
  (∃ (x : Int) (a : Option Addr) (m cap : Nat) (V : List Int), e = .returned (.agg #[.int .i64 x, .slice a m cap]) ∧ OwnI w' w.heap.size (.slice a m cap) V ∧ m ≤ 33) ∧ Cur w' cb ∧ w.grownBy w' (some cb)
structure BS (w wr : World) (cb gb rb : Nat) (x : Int) (a : Option Addr) (m cap : Nat) (V : List Int) : Prop where
  cur : Cur wr cb
  gbk : wr.heap[gb]? = some (.cells #[.int .i64 x, .slice a m cap] 26 (0, 0))
  rbk : wr.heap[rb]? = some (.cells #[.int .i64 0, .slice none 0 0] 26 (0, 0))
  grown : w.grownBy wr (some cb)
  own : OwnI wr w.heap.size (.slice a m cap) V
  apart : gb ≠ cb ∧ rb ≠ cb ∧ rb ≠ gb ∧ w.heap.size ≤ gb ∧ w.heap.size ≤ rb
  free : ∀ k, (Value.slice a m cap).ownBlock = some k → k ≠ gb ∧ k ≠ rb
theorem DS.bs {w wr : World} {cb vb gb rb n : Nat} {V : List Int} (h : DS w wr cb vb gb rb n V) (hV : V.length = cN n) (hn : cN n ≤ 32) : BS w wr cb gb rb (n : Int) (some ⟨vb, 0, none⟩) (cN n) (cN n) V := by
  obtain ⟨h1, h2, h3, h4, h5, h6, h7, h8, h9⟩ := h.apart
  exact ⟨h.cur, h.gbk, h.rbk, h.grown, Row.own h.row h7 hV (by omega), ⟨h2, h3, h6, h8, h9⟩, fun k hk => by
    simp only [Value.ownBlock, Option.some.injEq] at hk
    omega⟩
theorem BS.c0 {w wr : World} {cb gb rb : Nat} {x : Int} {a : Option Addr} {m cap : Nat} {V : List Int} (h : BS w wr cb gb rb x a m cap V) : wr.cell? ⟨gb, 0, none⟩ = some (.int .i64 x) := by rw [cell_of_row wr gb 0 _ _ _ h.gbk]; rfl
theorem BS.c1 {w wr : World} {cb gb rb : Nat} {x : Int} {a : Option Addr} {m cap : Nat} {V : List Int} (h : BS w wr cb gb rb x a m cap V) : wr.cell? ⟨gb, 1, none⟩ = some (.slice a m cap) := by rw [cell_of_row wr gb 1 _ _ _ h.gbk]; rfl
theorem BS.r0 {w wr : World} {cb gb rb : Nat} {x : Int} {a : Option Addr} {m cap : Nat} {V : List Int} (h : BS w wr cb gb rb x a m cap V) : wr.cell? ⟨rb, 0, none⟩ = some (.int .i64 0) ∧ wr.cell? ⟨rb, 1, none⟩ = some (.slice none 0 0) ∧ wr.frozen? ⟨rb, 0, none⟩ = false ∧ wr.frozen? ⟨rb, 1, none⟩ = false :=
  ⟨by rw [cell_of_row wr rb 0 _ _ _ h.rbk]; rfl, by rw [cell_of_row wr rb 1 _ _ _ h.rbk]; rfl, frozen_of_row wr rb 0 _ _ h.rbk, frozen_of_row wr rb 1 _ _ h.rbk⟩
theorem BS.ext {w wr w' : World} {cb gb rb : Nat} {x : Int} {a : Option Addr} {m cap : Nat} {V : List Int} (h : BS w wr cb gb rb x a m cap V) (hx : Ext wr w') : BS w w' cb gb rb x a m cap V :=
  ⟨h.cur.ext hx, (hx.block _ (lt_of_block h.gbk)).trans h.gbk, (hx.block _ (lt_of_block h.rbk)).trans h.rbk, grown_two h.grown (grown_ext (some cb) hx), h.own.ext hx, h.apart, h.free⟩
theorem BS.fin {w wr : World} {cb gb rb : Nat} {x : Int} {a : Option Addr} {m cap : Nat} {V : List Int} (h : BS w wr cb gb rb x a m cap V) (hm : m ≤ 33) :
    Bent w cb (.returned (.agg #[.int .i64 x, .slice a m cap])) ((wr.setCell ⟨rb, 0, none⟩ (.int .i64 x)).setCell ⟨rb, 1, none⟩ (.slice a m cap)) ∧
    ((wr.setCell ⟨rb, 0, none⟩ (.int .i64 x)).setCell ⟨rb, 1, none⟩ (.slice a m cap)).cell? ⟨rb, 0, none⟩ = some (.int .i64 x) ∧
    ((wr.setCell ⟨rb, 0, none⟩ (.int .i64 x)).setCell ⟨rb, 1, none⟩ (.slice a m cap)).cell? ⟨rb, 1, none⟩ = some (.slice a m cap) := by
  obtain ⟨h1, h2, h3, h4⟩ := pair_store (w := w) h.cur h.rbk (by intro y; simp) h.apart.2.1 h.grown h.apart.2.2.2.2 x (.slice a m cap) (by intro y; simp)
  exact ⟨⟨⟨x, a, m, cap, V, rfl, h.own.keep fun k hk => h3 k (h.free k hk).2, hm⟩, h1, h2⟩, by rw [cell_of_row _ rb 0 _ _ _ h4]; rfl, by rw [cell_of_row _ rb 1 _ _ _ h4]; rfl⟩
theorem BS.setx {w wr : World} {cb gb rb : Nat} {x : Int} {a : Option Addr} {m cap : Nat} {V : List Int} (h : BS w wr cb gb rb x a m cap V) (y : Int) : BS w (wr.setCell ⟨gb, 0, none⟩ (.int .i64 y)) cb gb rb y a m cap V := by
  obtain ⟨h1, h2, h3, h4, h5⟩ := h.apart
  have ho : ∀ j, j ≠ gb → (wr.setCell ⟨gb, 0, none⟩ (.int .i64 y)).heap[j]? = wr.heap[j]? := fun j hj => heap_setCell_other _ _ _ _ hj
  have hg := h.grown
  refine ⟨h.cur.put' h1 (fun j z e => ?_) 0 _, ?_, (ho _ h3).trans h.rbk, ⟨hg.os, hg.tape, hg.output, by simpa using hg.size, fun j hj hn => (ho j (by omega)).trans (hg.block j hj hn)⟩, h.own.keep fun k hk => ho k (h.free k hk).1, h.apart, h.free⟩
  · rw [cell_of_row wr gb j _ _ _ h.gbk] at e
    match j with
    | 0 => simp at e
    | 1 => simp at e
    | j + 2 => simp at e
  · have := heap_setCell_same wr gb 0 _ _ (.int .i64 y) h.gbk
    exact this
theorem BS.sets {w wr : World} {cb gb rb : Nat} {x : Int} {a : Option Addr} {m cap : Nat} {V : List Int} (h : BS w wr cb gb rb x a m cap V) {w' : World} (hg : wr.grownBy w' (Value.slice a m cap).ownBlock) (hc : Cur w' cb) {a' : Option Addr} {m' cap' : Nat} {V' : List Int} (ho' : OwnI w' w.heap.size (.slice a' m' cap') V') (hn : Near wr (.slice a m cap) (.slice a' m' cap')) :
    BS w (w'.setCell ⟨gb, 1, none⟩ (.slice a' m' cap')) cb gb rb x a' m' cap' V' := by
  obtain ⟨h1, h2, h3, h4, h5⟩ := h.apart
  have hgl := lt_of_block h.gbk
  have hrl := lt_of_block h.rbk
  have hgb : w'.heap[gb]? = some (.cells #[.int .i64 x, .slice a m cap] 26 (0, 0)) := (hg.block _ hgl (fun e => (h.free gb e.symm).1 rfl)).trans h.gbk
  have hrb : w'.heap[rb]? = some (.cells #[.int .i64 0, .slice none 0 0] 26 (0, 0)) := (hg.block _ hrl (fun e => (h.free rb e.symm).2 rfl)).trans h.rbk
  have ho : ∀ j, j ≠ gb → (w'.setCell ⟨gb, 1, none⟩ (.slice a' m' cap')).heap[j]? = w'.heap[j]? := fun j hj => heap_setCell_other _ _ _ _ hj
  have hfr : ∀ k, (Value.slice a' m' cap').ownBlock = some k → k ≠ gb ∧ k ≠ rb := fun k hk => by
    rcases hn k hk with e | e
    · exact h.free k e
    · omega
  have hw : w.grownBy w' (some cb) := by
    have hgr := h.grown
    refine ⟨hg.os.trans hgr.os, hg.tape.trans hgr.tape, hg.output.trans hgr.output, Nat.le_trans hgr.size hg.size, fun j hj hne => ?_⟩
    exact (hg.block j (by have := hgr.size; omega) (fun e => by have := (h.own.lt j e.symm).1; omega)).trans (hgr.block j hj hne)
  refine ⟨hc.put' h1 (fun j z e => ?_) 1 _, ?_, (ho _ h3).trans hrb, ⟨hw.os, hw.tape, hw.output, by simpa using hw.size, fun j hj hn => (ho j (by omega)).trans (hw.block j hj hn)⟩, ho'.keep fun k hk => ho k (hfr k hk).1, h.apart, hfr⟩
  · rw [cell_of_row w' gb j _ _ _ hgb] at e
    match j with
    | 0 => simp at e
    | 1 => simp at e
    | j + 2 => simp at e
  · have := heap_setCell_same w' gb 1 _ _ (.slice a' m' cap') hgb
    exact this
theorem Cur.grownRow {w w' : World} {cb vb : Nat} {t : TypeId} {V : List Int} (h : Cur w cb) (hr : Row w vb t V) (hne : vb ≠ cb) (hg : w.grownBy w' (some vb)) : Cur w' cb := by
  have hl := h.lt
  obtain ⟨ba, bn, bc, i, x, h1, h2, h3, h4, h5⟩ := h
  refine ⟨ba, bn, bc, i, x, (hg.block _ hl (fun e => hne (Option.some.inj e).symm)).trans h1, ⟨h2.hcap, h2.hmax, fun j hj => ?_⟩, h3, h4, h5⟩
  obtain ⟨b, off, e, hc⟩ := h2.cell j hj
  refine ⟨b, off, e, fun j hj => ?_⟩
  obtain ⟨y, hy, hy1⟩ := hc j hj
  refine ⟨y, (cell_same (hg.block _ (World.block_lt_of_cell? _ _ hy) ?_) _).trans hy, hy1⟩
  intro e2
  have e3 := Option.some.inj e2
  subst e3
  rw [cell_of_row w b _ _ _ _ hr] at hy
  simp [intCells, List.getElem?_map] at hy
set_option maxHeartbeats 16000000 in
theorem s_l8Bent {w : World} {cb : Nat} (h : Cur w cb) :
    Calls Try.prog 67 #[.pointer (some ⟨cb, 0, none⟩)] w (Bent w cb) := by
  have hcl := h.lt
  have HX := Lib.hid (Ext.alloc w (.cells #[.int .i64 0, .slice none 0 0] 26))
  have HC := Lib.hid (h.ext HX.out)
  have HB := Lib.hid (s_l8Draw HC.out 4 (by omega) (by omega))
  have hrb : (w.alloc (.cells #[.int .i64 0, .slice none 0 0] 26)).heap[w.heap.size]? = some (.cells #[.int .i64 0, .slice none 0 0] 26 (0, 0)) := heap_alloc_new _ _
  have HRB := Lib.hid hrb
  clear h hrb
  go_enter Try.func67, Try.ntmps67
  go_wp2_with fail
  refine HB.out.mono ?_
  rintro e w1 ⟨⟨n, vb, V, rfl, hD⟩, hc, hg⟩
  have hn1 := hD.lo
  have hn4 := hD.hi
  have hcn := cN_le n (by omega)
  obtain ⟨N, hN⟩ : ∃ N, N = cN n := ⟨_, rfl⟩
  have HD := Lib.hid (show DS w (w1.alloc (.cells #[.int .i64 (n : Int), .slice (some ⟨vb, 0, none⟩) (cN n) (cN n)] 26)) cb vb w1.heap.size w.heap.size n V by
    have hg1 : w.grownBy w1 (some cb) := grown_two (grown_ext (some cb) HX.out) hg
    have hv := hD.row.lt
    have hvn := hD.new
    rw [World.size_alloc] at hvn
    have hne := hD.ne
    have hx := Ext.alloc w1 (.cells #[.int .i64 (n : Int), .slice (some ⟨vb, 0, none⟩) (cN n) (cN n)] 26)
    have hrb1 := (grown_block hg (by simp) (by omega)).trans HRB.out
    exact ⟨hD.row.ext hx, hc.ext hx, heap_alloc_new _ _, (hx.block _ (lt_of_block hrb1)).trans hrb1, grown_two hg1 (grown_ext (some cb) hx), by omega⟩)
  have HVL := Lib.hid hD.len
  clear hD hc hg
  rw [← hN] at HVL
  go_wp2_with fail
  refine (s_l1Below HD.out.cur 12 (by omega)).mono ?_
  rintro e w3 ⟨⟨z, rfl, hz0, hz1⟩, hc, hg⟩
  have HD3 := Lib.hid (HD.out.call hc hg)
  generalize w1.heap.size = gb at HD3 ⊢
  clear hc hg HD
  have HBS := Lib.hid (HD3.out.bs (by rw [HVL.out, hN]) (by omega))
  have c0 := HBS.out.c0
  have c1 := HBS.out.c1
  obtain ⟨r0, r1, rf0, rf1⟩ := HBS.out.r0
  rw [← hN] at HBS c1
  have HCN := Lib.hid hN
  have hN1 : 1 ≤ N := by omega
  have hN32 : N ≤ 32 := by omega
  have HNC := Lib.hid hN.symm
  clear hN
  have hcase : z = 0 ∨ z = 1 ∨ z = 2 ∨ z = 3 ∨ 4 ≤ z := by omega
  rcases hcase with rfl | rfl | rfl | rfl | hz4
  · have hcv := HD3.out.row.cell (k := 0) (by rw [HVL.out]; omega)
    have hfv := HD3.out.row.free 0
    have HBS4 := Lib.hid ((HD3.out.put 0 1).bs (by rw [List.length_set, HVL.out, HNC.out]) (by rw [HNC.out]; exact hN32))
    have c0' := HBS4.out.c0
    have c1' := HBS4.out.c1
    obtain ⟨r0', r1', rf0', rf1'⟩ := HBS4.out.r0
    rw [HNC.out] at HBS4 c1'
    have HF := Lib.hid (HBS4.out.fin (by omega))
    clear HD3 HNC HCN
    go_wp2_with fail
    refine bodyPost_ret (v := .agg #[.int .i64 (n : Int), .slice (some ⟨vb, 0, none⟩) N N]) (by simp [results, Try.results67, go_sem, HF.out.2.1, HF.out.2.2]) rfl HF.out.1
  · have hli : Ints (w3.alloc (.cells #[.int .i64 0, .int .i64 6, .int .i64 2, .int .i64 (-1)] 3)) (some ⟨w3.heap.size, 0, none⟩) 4 4 [0, 6, 2, -1] := Ints.lit w3 [0, 6, 2, -1] 3 (by decide)
    have HLI := Lib.hid hli
    have hcl3 := HD3.out.cur.lt
    have HDA := Lib.hid (HD3.out.ext (Ext.alloc w3 (.cells #[.int .i64 0, .int .i64 6, .int .i64 2, .int .i64 (-1)] 3)))
    clear hli
    go_wp2_with fail
    refine (s_l1PickInt HDA.out.cur HLI.out (by omega) (fun b off e => by simp only [Option.some.injEq, Addr.mk.injEq, and_true] at e; omega)).mono ?_
    rintro e w5 ⟨⟨k, hk, rfl⟩, hc, hg⟩
    obtain ⟨y, hy⟩ : ∃ y, y = ([0, 6, 2, -1] : List Int)[k]?.getD 0 := ⟨_, rfl⟩
    rw [← hy]
    have HB5 := Lib.hid ((HDA.out.call hc hg).bs (by rw [HVL.out, HNC.out]) (by rw [HNC.out]; exact hN32))
    have d0 := HB5.out.c0
    have d1 := HB5.out.c1
    have df : w5.frozen? ⟨gb, 0, none⟩ = false := frozen_of_row w5 gb 0 _ _ HB5.out.gbk
    have HB6 := Lib.hid (HB5.out.setx y)
    have c0' := HB6.out.c0
    have c1' := HB6.out.c1
    obtain ⟨r0', r1', rf0', rf1'⟩ := HB6.out.r0
    rw [HNC.out] at HB6 c1' d1
    have HF := Lib.hid (HB6.out.fin (by omega))
    clear hy hc hg HD3 HNC HCN
    go_wp2_with fail
    refine bodyPost_ret (v := .agg #[.int .i64 y, .slice (some ⟨vb, 0, none⟩) N N]) (by simp [results, Try.results67, go_sem, HF.out.2.1, HF.out.2.2]) rfl HF.out.1
  · have HR := Lib.hid (HD3.out.row.ext (Ext.alloc w3 (.cells #[.int .i64 1] 3)))
    have HCR := Lib.hid (HD3.out.cur.ext (Ext.alloc w3 (.cells #[.int .i64 1] 3)))
    have hvc := HD3.out.apart.1
    have hgs := HD3.out.grown.size
    have hgbl := lt_of_block HBS.out.gbk
    go_wp2_with (first
      | (at_builtin; refine append_ints rfl _ _ rfl w.heap.size (.slice (some ⟨vb, 0, none⟩) N N) V rfl (HBS.out.own.ext (Ext.alloc _ _)) _ 1 _ [1] rfl (Ints.oneS _ _ _ _ rfl) (by rw [HVL.out]; omega) (by simp; omega) ?_
         intro v5 w5 ho hg hnear
         obtain ⟨a5, n5, p5, rfl, HN5⟩ := ho.var
         have gf := (hg.block gb (by simp; omega) (fun e => (HBS.out.free gb e.symm).1 rfl)).trans (((Ext.alloc w3 _).block _ hgbl).trans HBS.out.gbk)
         have gf1 : w5.frozen? ⟨gb, 1, none⟩ = false := frozen_of_row w5 gb 1 _ _ gf
         have gc1 : w5.cell? ⟨gb, 1, none⟩ = some (.slice (some ⟨vb, 0, none⟩) N N) := by rw [cell_of_row w5 gb 1 _ _ _ gf]; rfl
         have HB6 := Lib.hid ((HBS.out.ext (Ext.alloc _ _)).sets hg (HCR.out.grownRow HR.out hvc hg) ho hnear)
         have c0' := HB6.out.c0
         have c1' := HB6.out.c1
         obtain ⟨r0', r1', rf0', rf1'⟩ := HB6.out.r0
         have hn5 : n5 ≤ 33 := by have := HN5.out; have := HVL.out; rw [List.length_append, List.length_singleton] at *; omega
         have HF := Lib.hid (HB6.out.fin hn5)
         clear ho hg hnear gf))
    refine bodyPost_ret (v := .agg #[.int .i64 (n : Int), .slice a5 n5 p5]) (by simp [results, Try.results67, go_sem, HF.out.2.1, HF.out.2.2]) rfl HF.out.1
  · have hds0 : DS w w3.drew cb vb gb w.heap.size n V := HD3.out.ext (Ext.drew w3)
    have hdsA : DS w (w3.alloc (.cells #[.int .i64 500, .int .i64 501, .int .i64 (-501)] 3)).drew cb vb gb w.heap.size n V := (HD3.out.ext (Ext.alloc _ _)).ext (Ext.drew _)
    have hli : Ints (w3.alloc (.cells #[.int .i64 500, .int .i64 501, .int .i64 (-501)] 3)).drew (some ⟨w3.heap.size, 0, none⟩) 3 3 [500, 501, -501] := (Ints.lit w3 [500, 501, -501] 3 (by decide)).ext (Ext.drew _)
    have hcl3 := HD3.out.cur.lt
    have HC1E : ∀ (W : World) (V' : List Int), DS w W cb vb gb w.heap.size n V' → W.cell? ⟨gb, 1, none⟩ = some (.slice (some ⟨vb, 0, none⟩) N N) := fun W V' h => by have := h.c1; rw [HNC.out] at this; exact this
    obtain ⟨q, hq⟩ : ∃ q : Nat, (N : Int) - 1 = (q : Int) := ⟨N - 1, by omega⟩
    have hqN : q < N := by omega
    have hw1 : IntKind.i64.wrap ((N : Int) - 1) = (q : Int) := by rw [hq, IntKind.wrap_i64]; omega
    have hw2 : IntKind.i64.wrap (q : Int) = (q : Int) := by rw [IntKind.wrap_i64]; omega
    have HCE := Lib.hid HC1E
    clear HC1E
    go_wp2_with fail
    go_region_held3 (fun w' => w'.cell? ⟨gb, 1, none⟩ = some (.slice (some ⟨vb, 0, none⟩) N N))
      (first | with_reducible exact HCE.out _ _ hds0 | with_reducible exact HCE.out _ _ hdsA | with_reducible exact HCE.out _ _ hds | with_reducible exact HCE.out _ _ (hds.put _ _))
      (first
        | (go_at_call 86
           refine (s_l1PickInt hdsA.cur hli (by omega) (fun b off e => by simp only [Option.some.injEq, Addr.mk.injEq, and_true] at e; omega)).mono ?_
           rintro e w5 ⟨⟨k, hk, rfl⟩, hc, hg⟩
           obtain ⟨y, hy⟩ : ∃ y, y = ([500, 501, -501] : List Int)[k]?.getD 0 := ⟨_, rfl⟩
           rw [← hy]
           clear hy
           have hds := hdsA.call hc hg
           have hcv := hds.row.cell (k := q) (by rw [HVL.out]; exact hqN)
           have hfv := hds.row.free q
           have HDP := Lib.hid (hds.put q y)
           clear hc hg)
        | fail)
    all_goals
      have HB6 := Lib.hid (HDP.out.bs (by rw [List.length_set, HVL.out, HNC.out]) (by rw [HNC.out]; exact hN32))
      have c0' := HB6.out.c0
      have c1' := HB6.out.c1
      obtain ⟨r0', r1', rf0', rf1'⟩ := HB6.out.r0
      rw [HNC.out] at HB6 c1'
      have HF := Lib.hid (HB6.out.fin (by omega))
      clear HNC HCN
      go_wp2_with fail
      refine bodyPost_ret (v := .agg #[.int .i64 (n : Int), .slice (some ⟨vb, 0, none⟩) N N]) (by simp [results, Try.results67, go_sem, HF.out.2.1, HF.out.2.2]) rfl HF.out.1
  · have e0 : (z == 0) = false := by simp; omega
    have e1 : (z == 1) = false := by simp; omega
    have e2 : (z == 2) = false := by simp; omega
    have e3 : (z == 3) = false := by simp; omega
    have HF := Lib.hid (HBS.out.fin (by omega))
    go_wp2_with fail
    refine bodyPost_ret (v := .agg #[.int .i64 (n : Int), .slice (some ⟨vb, 0, none⟩) N N]) (by simp [results, Try.results67, go_sem, HF.out.2.1, HF.out.2.2]) rfl HF.out.1
end Go.Proofs.Ytgohdmnbnhehnaa
namespace Go.Proofs.Ytgohdmnbnhehnaa
set_option linter.unusedVariables false
section
variable {P : Program} {ops : Array Oper} {Q : Exit → Act → World → Prop} {md : Region.Mode} {S : World → Prop} {M : List Nat}
def Fresh (M : List Nat) (listed : Array Bool) : Prop := ∀ j ∈ M, listed.getD j true = false
theorem Fresh.set {M : List Nat} {listed : Array Bool} {i : Nat} (h : Fresh M listed) (hi : i ∉ M) : Fresh M (listed.setIfInBounds i true) := fun j hj => by
  rw [getD_set_ne true (show i ≠ j from fun e => hi (by rw [e]; exact hj))]; exact h j hj
def lateAny (P : Program) (md : Region.Mode) (ops : Array Oper) (Q : Exit → Act → World → Prop) (M : List Nat) (S : World → Prop) : Nat → Array Bool → Act → World → Prop
  | 0, listed, a, w => Region.ready md ops listed = [] ∧ Q .normal a w
  | f + 1, listed, a, w => (Region.ready md ops listed = [] → Q .normal a w) ∧
    ∀ i ∈ Region.ready md ops listed, wpOp P ops Q i (fun a' w' => (Fresh M (listed.setIfInBounds i true) → S w') ∧ lateAny P md ops Q M S f (listed.setIfInBounds i true) a' w') a w
theorem lateAny.any : ∀ {f : Nat} {listed : Array Bool} {a : Act} {w : World}, lateAny P md ops Q M S f listed a w → wpAny P md ops Q f listed a w
  | 0, _, _, _, h => h
  | f + 1, _, _, _, h => ⟨h.1, fun i hi => wpOp_mono (fun a' w' h' => lateAny.any h'.2) (h.2 i hi)⟩
end
end Go.Proofs.Ytgohdmnbnhehnaa
namespace Go.Proofs.Ytgohdmnbnhehnaa
set_option linter.unusedVariables false
set_option linter.unusedSimpArgs false
set_option maxRecDepth 100000
open Go.RowKit
abbrev Bx := Nat → Option (Array Value × TypeId)
def Bx.nil : Bx := fun _ => none
def Bx.upd (f : Bx) (b : Nat) (p : Array Value × TypeId) : Bx := fun k => if k = b then some p else f k
theorem Bx.same (f : Bx) (b : Nat) (p : Array Value × TypeId) : f.upd b p b = some p := by unfold Bx.upd; rw [if_pos rfl]
theorem Bx.other (f : Bx) {b k : Nat} (p : Array Value × TypeId) (h : k ≠ b) : f.upd b p k = f k := by unfold Bx.upd; rw [if_neg h]
structure Bxs (w wr : World) (cb : Nat) (f : Bx) : Prop where
  cur : Cur wr cb
  grown : w.grownBy wr (some cb)
  box : ∀ b p, f b = some p → wr.heap[b]? = some (.cells p.1 p.2 (0, 0)) ∧ b ≠ cb ∧ w.heap.size ≤ b
  dry : ∀ b p, f b = some p → ∀ (j : Nat) (y : Int), p.1[j]? ≠ some (Value.int .u8 y)
section
variable {w wr w' : World} {cb b : Nat} {f : Bx} {p : Array Value × TypeId}
theorem Bxs.lt (h : Bxs w wr cb f) (hf : f b = some p) : b < wr.heap.size := lt_of_block (h.box b p hf).1
theorem Bxs.call (h : Bxs w wr cb f) (hc : Cur w' cb) (hg : wr.grownBy w' (some cb)) : Bxs w w' cb f :=
  ⟨hc, grown_two h.grown hg, fun b p hf => ⟨(grown_block hg (h.lt hf) (h.box b p hf).2.1).trans (h.box b p hf).1, (h.box b p hf).2⟩, h.dry⟩
theorem Bxs.ext (h : Bxs w wr cb f) (hx : Ext wr w') : Bxs w w' cb f := h.call (h.cur.ext hx) (grown_ext _ hx)
theorem Bxs.cell (h : Bxs w wr cb f) (hf : f b = some p) (i : Nat) : wr.cell? ⟨b, i, none⟩ = p.1[i]? := cell_of_row wr b i _ _ _ (h.box b p hf).1
theorem Bxs.c0 {x0 x1 : Value} {t : TypeId} (h : Bxs w wr cb f) (hf : f b = some (#[x0, x1], t)) : wr.cell? ⟨b, 0, none⟩ = some x0 := h.cell hf 0
theorem Bxs.c1 {x0 x1 : Value} {t : TypeId} (h : Bxs w wr cb f) (hf : f b = some (#[x0, x1], t)) : wr.cell? ⟨b, 1, none⟩ = some x1 := h.cell hf 1
theorem Bxs.free (h : Bxs w wr cb f) (hf : f b = some p) (i : Nat) : wr.frozen? ⟨b, i, none⟩ = false := frozen_of_row wr b i _ _ (h.box b p hf).1
theorem Bxs.start (hc : Cur wr cb) (hg : w.grownBy wr (some cb)) : Bxs w wr cb Bx.nil := ⟨hc, hg, fun _ _ h => (by cases h), fun _ _ h => (by cases h)⟩
theorem Bxs.add (h : Bxs w wr cb f) (b : Nat) (arr : Array Value) (t : TypeId) (hb : wr.heap[b]? = some (.cells arr t (0, 0))) (hne : b ≠ cb) (hw : w.heap.size ≤ b) (hd : ∀ (j : Nat) (y : Int), arr[j]? ≠ some (Value.int .u8 y)) : Bxs w wr cb (f.upd b (arr, t)) := by
  refine ⟨h.cur, h.grown, fun k p hf => ?_, fun k p hf => ?_⟩
  all_goals
    by_cases e : k = b
    · subst e
      rw [Bx.same] at hf
      cases hf
      first | exact ⟨hb, hne, hw⟩ | exact hd
    · rw [Bx.other _ _ e] at hf
      first | exact h.box k p hf | exact h.dry k p hf
theorem Bxs.new (h : Bxs w wr cb f) (arr : Array Value) (t : TypeId) (hd : ∀ (j : Nat) (y : Int), arr[j]? ≠ some (Value.int .u8 y)) : Bxs w (wr.alloc (.cells arr t)) cb (f.upd wr.heap.size (arr, t)) :=
  (h.ext (Ext.alloc wr _)).add _ _ _ (heap_alloc_new _ _) (by have := h.cur.lt; omega) h.grown.size hd
theorem Bxs.put (h : Bxs w wr cb f) (hf : f b = some p) (i : Nat) (v : Value) (hv : ∀ y : Int, v ≠ Value.int .u8 y) : Bxs w (wr.setCell ⟨b, i, none⟩ v) cb (f.upd b (p.1.setIfInBounds i v, p.2)) := by
  have hb := h.box b p hf
  have ho : ∀ j, j ≠ b → (wr.setCell ⟨b, i, none⟩ v).heap[j]? = wr.heap[j]? := fun j hj => heap_setCell_other _ _ _ _ hj
  have hg := h.grown
  refine ⟨h.cur.put' hb.2.1 (fun j y e => ?_) i v, ⟨hg.os, hg.tape, hg.output, by simpa using hg.size, fun j hj hn => (ho j (by omega)).trans (hg.block j hj hn)⟩, fun k q hk => ?_, fun k q hk => ?_⟩
  · rw [h.cell hf] at e; exact h.dry b p hf j y e
  · by_cases e : k = b
    · subst e
      rw [Bx.same] at hk
      cases hk
      exact ⟨heap_setCell_same wr k i _ _ v hb.1, hb.2⟩
    · rw [Bx.other _ _ e] at hk
      have := h.box k q hk
      exact ⟨(ho k e).trans this.1, this.2⟩
  · by_cases e : k = b
    · subst e
      rw [Bx.same] at hk
      cases hk
      intro j y ej
      simp only [Array.getElem?_setIfInBounds] at ej
      split at ej
      · split at ej
        · exact hv y (Option.some.inj ej)
        · cases ej
      · exact h.dry k p hf j y ej
    · rw [Bx.other _ _ e] at hk
      exact h.dry k q hk
theorem Bxs.put2 {x0 x1 : Value} {t : TypeId} (h : Bxs w wr cb f) (hf : f b = some (#[x0, x1], t)) (v0 v1 : Value) (h0 : ∀ y : Int, v0 ≠ Value.int .u8 y) (h1 : ∀ y : Int, v1 ≠ Value.int .u8 y) :
    Bxs w ((wr.setCell ⟨b, 0, none⟩ v0).setCell ⟨b, 1, none⟩ v1) cb (f.upd b (#[v0, v1], t)) := by
  have h2 := (h.put hf 0 v0 h0).put (Bx.same _ _ _) 1 v1 h1
  refine ⟨h2.cur, h2.grown, fun k p hk => h2.box k p ?_, fun k p hk => h2.dry k p ?_⟩
  all_goals
    by_cases e : k = b
    · subst e; rw [Bx.same] at hk ⊢; rw [← hk]; rfl
    · rw [Bx.other _ _ e] at hk; rw [Bx.other _ _ e, Bx.other _ _ e]; exact hk
theorem OwnI.calls {base : Nat} {v : Value} {V : List Int} (ho : OwnI wr base v V) (hg : wr.grownBy w' (some cb)) (hb : cb < base) : OwnI w' base v V :=
  ho.keep fun k hk => grown_block hg (ho.lt k hk).2 (by have := (ho.lt k hk).1; omega)
theorem OwnI.put2 {base : Nat} {v : Value} {V : List Int} (ho : OwnI wr base v V) (hb : b < base) (v0 v1 : Value) : OwnI ((wr.setCell ⟨b, 0, none⟩ v0).setCell ⟨b, 1, none⟩ v1) base v V :=
  ((OwnI.on ho).set hb v0 |>.set (a := ⟨b, 1, none⟩) hb v1).here
theorem Bxs.all (h : Bxs w wr cb f) (hcb : w.heap.size ≤ cb) : Ext w wr := ext_grown (Ext.refl w) h.grown (fun k hk => by have := Option.some.inj hk; omega)
end
theorem pair_dry (x : Int) (s : Value) (hs : ∀ y : Int, s ≠ Value.int .u8 y) : ∀ (j : Nat) (y : Int), (#[Value.int .i64 x, s] : Array Value)[j]? ≠ some (Value.int .u8 y) := fun j y e => by
  match j with
  | 0 => simp at e
  | 1 => exact hs y (by simpa using e)
  | j + 2 => simp at e
theorem slice_dry (a : Option Addr) (n c : Nat) : ∀ y : Int, Value.slice a n c ≠ Value.int .u8 y := fun y e => by cases e
theorem i64_dry (x : Int) : ∀ y : Int, Value.int .i64 x ≠ Value.int .u8 y := fun y e => by cases e
end Go.Proofs.Ytgohdmnbnhehnaa
namespace Go.Proofs.Ytgohdmnbnhehnaa
set_option linter.unusedVariables false
set_option linter.unusedSimpArgs false
open Go.RowKit
def gameOk (p : Int) (l : List Int) : Bool := l.all (fun x => inB x (-500) 500) && (inB p 1 5 && (decide ((l.length : Int) = cntC p) && decide (l[0]?.getD 0 = 0)))
theorem gameOk_len {p : Int} {l : List Int} (h : gameOk p l = true) : ∃ n : Nat, p = n ∧ 1 ≤ n ∧ n ≤ 5 ∧ l.length = cN n ∧ l[0]?.getD 0 = 0 ∧ ∀ x ∈ l, -500 ≤ x ∧ x ≤ 500 := by
  unfold gameOk at h
  simp only [Bool.and_eq_true, decide_eq_true_eq] at h
  obtain ⟨ha, hp, hl, h0⟩ := h
  have hb : 1 ≤ p ∧ p ≤ 5 := by unfold inB at hp; simpa using hp
  refine ⟨p.toNat, by omega, by omega, by omega, ?_, h0, ?_⟩
  · have : p = (p.toNat : Int) := by omega
    rw [this, cntC_nat _ (by omega)] at hl
    omega
  · intro x hx
    have := List.all_eq_true.1 ha x hx
    unfold inB at this
    simpa using this
set_option maxHeartbeats 1000000 in
theorem s_IsValidGame {w : World} {p : Int} {a : Option Addr} {n cap : Nat} {l : List Int} (h : Ints w a n cap l) :
    Calls Try.prog 63 #[pair p a n cap] w fun e w' => e = .returned (.bool (gameOk p l)) ∧ Ext w w' := by
  have h1 := h.alloc (.cells #[.int .i64 p, .slice a n cap] 26)
  have hn := h.hcap
  have hm := h.hmax
  have HL := Lib.hid h.hlen
  clear h
  go_enter Try.func63, Try.ntmps63
  go_wp2
  go_loop [3] (fun i => ∃ k : Nat, k ≤ n ∧ i = .int .i64 k ∧ (l.take k).all (fun x => inB x (-500) 500) = true) (fun i => n - (intOf i).toNat)
  case atStart => exact ⟨0, Nat.zero_le _, rfl, rfl⟩
  case round =>
    obtain ⟨k, hk, rfl, hall⟩ := hrel
    have HA := Lib.hid hall
    clear hall
    by_cases hlt : k < n
    · obtain ⟨b, off, rfl, hc⟩ := h1.at hlt
      cases hb : inB (l[k]?.getD 0) (-500) 500
      · have HB := Lib.hid hb
        go_wp2_with (first | (go_at_call 70; refine (s_l1In _ _ _ _).mono ?_; rintro e w' ⟨rfl, rfl⟩))
        go_ret
        refine ⟨ret_bool ?_, Ext.alloc _ _⟩
        symm
        unfold gameOk
        cases hx : l.all (fun x => inB x (-500) 500)
        · rfl
        · have := all_get hx (k := k) (by have := HL.out; omega); rw [HB.out] at this; cases this
      · have HB := Lib.hid hb
        go_wp2_with (first | (go_at_call 70; refine (s_l1In _ _ _ _).mono ?_; rintro e w' ⟨rfl, rfl⟩))
        go_round
        case rel => exact ⟨k + 1, by omega, by go_num, by rw [take_snoc (by have := HL.out; omega), List.all_append, HA.out]; simpa using HB.out⟩
        case measure => simp [intOf]; omega
    · have hkn : k = l.length := by have := HL.out; omega
      have hall := HA.out
      rw [hkn, List.take_length] at hall
      have HALL := Lib.hid hall
      clear hall hkn
      cases hp : inB p 1 5
      · have HP := Lib.hid hp
        go_wp2
        go_quiet ((first | (go_at_call 70; exact quiet_same (s_l1In _ _ _ _)) | (go_at_call 39; exact quiet_same (s_CountCoalitions _ _))))
        go_wp2
        go_ret
        exact ⟨ret_bool (by unfold gameOk; rw [HALL.out, HP.out]; rfl), below_drewN (Ext.alloc _ _) _⟩
      · have HP := Lib.hid hp
        cases hl : ((n : Int) == cntC p)
        · have HE := Lib.hid hl
          go_wp2
          go_quiet ((first | (go_at_call 70; exact quiet_same (s_l1In _ _ _ _)) | (go_at_call 39; exact quiet_same (s_CountCoalitions _ _))))
          go_wp2
          go_ret
          refine ⟨ret_bool ?_, below_drewN (Ext.alloc _ _) _⟩
          have : ¬ ((l.length : Int) = cntC p) := by rw [HL.out]; have := HE.out; simpa using this
          unfold gameOk; rw [decide_eq_false this]; simp
        · have HE := Lib.hid hl
          have hpos : 0 < n := by
            have h1 : 1 ≤ p ∧ p ≤ 5 := by unfold inB at hp; simpa using hp
            have h2 : (n : Int) = cntC p := by simpa using hl
            unfold cntC at h2
            rw [if_pos (by unfold inB; simp; omega)] at h2
            have := pow_pos p.toNat
            omega
          obtain ⟨b, off, rfl, hc⟩ := h1.at hpos
          rw [Nat.add_zero] at hc
          go_wp2
          go_quiet ((first | (go_at_call 70; exact quiet_same (s_l1In _ _ _ _)) | (go_at_call 39; exact quiet_same (s_CountCoalitions _ _))))
          go_wp2
          go_ret
          refine ⟨ret_bool ?_, below_drewN (Ext.alloc _ _) _⟩
          have he : (l.length : Int) = cntC p := by rw [HL.out]; have := HE.out; simpa using this
          unfold gameOk
          rw [HALL.out, HP.out, decide_eq_true he]
          rw [Bool.eq_iff_iff]; simp
theorem i_IsValidGame1 (x : Int) (w : World) : Calls Try.prog 122 #[.int .i64 x] w fun e w' => e = .returned (.bool (!inB x (-500) 500)) ∧ w = w' := by
  go_enter Try.func122, Try.ntmps122
  go_wp2_with (first | (go_at_call 69; refine (i_within _ _ _ _).mono ?_; rintro e w' ⟨rfl, rfl⟩))
  go_ret
  exact ⟨rfl, rfl⟩
theorem go_IsValidGame1 : IsGo Try.prog 122 := isGo Try.func122 (by kernel_rfl) (by kernel_rfl)
theorem asks_IsValidGame1 (w : World) : Asks Try.prog w 122 #[] (fun x => !inB x (-500) 500) :=
  fun x w1 _ => (i_IsValidGame1 x w1).mono fun e w' ⟨he, hw⟩ => ⟨he, hw ▸ Ext.refl _⟩
theorem gameOk_any (p : Int) (l : List Int) : gameOk p l = (inB p 1 5 && (decide ((l.length : Int) = cntC p) && (decide (l[0]?.getD 0 = 0) && !l.any (fun x => !inB x (-500) 500)))) := by
  unfold gameOk
  have : (!l.any (fun x => !inB x (-500) 500)) = l.all (fun x => inB x (-500) 500) := by rw [List.not_any_eq_all_not]; simp
  rw [this]
  cases l.all (fun x => inB x (-500) 500) <;> simp
set_option maxHeartbeats 1000000 in
theorem i_IsValidGame {w : World} {p : Int} {a : Option Addr} {n cap : Nat} {l : List Int} (h : Ints w a n cap l) :
    Calls Try.prog 59 #[pair p a n cap] w fun e w' => e = .returned (.bool (gameOk p l)) ∧ Ext w w' := by
  have h1 := h.alloc (.cells #[.int .i64 p, .slice a n cap] 26)
  have HX := Lib.hid (Ext.alloc w (.cells #[.int .i64 p, .slice a n cap] 26))
  have hn := h.hcap
  have hm := h.hmax
  have HL := Lib.hid h.hlen
  clear h
  cases hp : inB p 1 5
  · have HP := Lib.hid hp
    go_enter Try.func59, Try.ntmps59
    go_wp2
    go_quiet ((first | (go_at_call 69; exact quiet_same (i_within _ _ _ _))))
    go_wp2
    go_ret
    exact ⟨ret_bool (by rw [gameOk_any, HP.out]; rfl), below_drewN (Ext.alloc _ _) _⟩
  · have HP := Lib.hid hp
    obtain ⟨m, rfl⟩ : ∃ m : Nat, p = m := ⟨p.toNat, by unfold inB at hp; simp at hp; omega⟩
    have hm1 : 1 ≤ m ∧ m ≤ 5 := by unfold inB at hp; simp at hp; omega
    obtain ⟨hm1, hm5⟩ := hm1
    have hwp : IntKind.i64.wrap ((2 : Int) ^ m) = (cN m : Int) := by
      have h1 := pow_pos m
      have h2 := pow_le5 m hm5
      rw [IntKind.wrap_i64, cN_pow]; omega
    have hwp' : wrap64 ((2 : Int) ^ m) = (cN m : Int) := (wrap_pow m hm5).trans (cN_pow m).symm
    have HC := Lib.hid (cntC_nat m hm5)
    have hN := cN_le m hm5
    cases hl : ((n : Int) != (cN m : Int))
    · have hnm : n = cN m := Int.ofNat.inj (show (n : Int) = (cN m : Int) by simpa using hl)
      have HNM := Lib.hid hnm
      have hpos : 0 < n := by omega
      obtain ⟨b, off, rfl, hc⟩ := h1.at hpos
      rw [Nat.add_zero] at hc
      clear hnm
      cases h0 : (l[0]?.getD 0 != 0)
      · have HZ := Lib.hid h0
        have HI := Lib.hid h1
        go_enter Try.func59, Try.ntmps59
        go_wp2
        go_quiet ((first | (go_at_call 69; exact quiet_same (i_within _ _ _ _))))
        go_wp2_with fail
        refine (containsFunc_ints (HI.out.drewN _) go_IsValidGame1 (asks_IsValidGame1 _)).mono ?_
        rintro e w1 ⟨rfl, hx⟩
        go_wp2
        go_ret
        refine ⟨ret_bool ?_, Ext.trans (below_drewN HX.out _) hx⟩
        rw [gameOk_any, HP.out, HC.out, HL.out, HNM.out, decide_eq_true rfl]
        have : l[0]?.getD 0 = 0 := by simpa using HZ.out
        rw [decide_eq_true this]
        rfl
      · have HZ := Lib.hid h0
        go_enter Try.func59, Try.ntmps59
        go_wp2
        go_quiet ((first | (go_at_call 69; exact quiet_same (i_within _ _ _ _))))
        go_wp2
        go_ret
        refine ⟨ret_bool ?_, below_drewN HX.out _⟩
        have : ¬ (l[0]?.getD 0 = 0) := by simpa using HZ.out
        rw [gameOk_any, decide_eq_false this]
        simp
    · have HNE := Lib.hid hl
      go_enter Try.func59, Try.ntmps59
      go_wp2
      go_quiet ((first | (go_at_call 69; exact quiet_same (i_within _ _ _ _))))
      go_wp2
      go_ret
      refine ⟨ret_bool ?_, below_drewN HX.out _⟩
      have : ¬ ((l.length : Int) = cntC (m : Int)) := by rw [HL.out, HC.out]; have := HNE.out; simpa using this
      rw [gameOk_any, decide_eq_false this]
      simp
end Go.Proofs.Ytgohdmnbnhehnaa
