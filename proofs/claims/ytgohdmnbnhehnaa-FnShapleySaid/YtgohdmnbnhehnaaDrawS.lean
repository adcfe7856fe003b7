/- What FnShapley draws. -/
import Derived.Test.YtgohdmnbnhehnaaDrawX
import Derived.Test.YtgohdmnbnhehnaaAddG
namespace Go.Proofs.Ytgohdmnbnhehnaa
set_option linter.unusedVariables false
set_option linter.unusedSimpArgs false
set_option maxRecDepth 100000
open Go.RowKit

set_option maxHeartbeats 1000000 in
theorem s_l1Once {w : World} {cb : Nat} (h : Cur w cb) (n : Int) (hn : 1 ≤ n) :
    Calls Try.prog 58 #[.pointer (some ⟨cb, 0, none⟩), .int .i64 n] w fun e w' => (∃ b, e = .returned (.bool b)) ∧ Cur w' cb ∧ w.grownBy w' (some cb) := by
  have H := Lib.hid (s_l1Below h n hn)
  clear h
  go_enter Try.func58, Try.ntmps58
  go_wp2_with fail
  refine H.out.mono ?_
  rintro e w1 ⟨⟨x, rfl, hx0, hx1⟩, hc, hg⟩
  have HC := Lib.hid hc
  have HG := Lib.hid hg
  clear hc hg
  by_cases hx : x = 0
  · subst hx
    go_wp2_with fail
    go_ret
    exact ⟨⟨_, rfl⟩, HC.out, HG.out⟩
  · have hx' : (x == 0) = false := by simp [hx]
    go_wp2_with fail
    go_ret
    exact ⟨⟨_, rfl⟩, HC.out, HG.out⟩

set_option maxHeartbeats 4000000 in
theorem s_DrawShapleyValue {w : World} {a : Option Addr} {n cap : Nat} (h : Bytes w a n cap) (hn : n ≤ 1048576) :
    Calls Try.prog 18 #[.slice a n cap] w fun e w' => (∃ (x : Int) (b : Option Addr) (m c : Nat) (V : List Int), e = .returned (.agg #[.int .i64 x, .slice b m c]) ∧ Ints w' b m c V ∧ m ≤ 33) ∧ Ext w w' := by
  have HX := Lib.hid (Ext.alloc w (.cells #[.int .i64 0, .slice none 0 0] 26))
  have HN := Lib.hid (s_l1New (h.ext HX.out) hn)
  have hrb : (w.alloc (.cells #[.int .i64 0, .slice none 0 0] 26)).heap[w.heap.size]? = some (.cells #[.int .i64 0, .slice none 0 0] 26 (0, 0)) := heap_alloc_new _ _
  have HRB := Lib.hid hrb
  clear h hrb
  go_enter Try.func18, Try.ntmps18
  go_wp2_with fail
  refine HN.out.mono ?_
  rintro e w1 ⟨⟨cb, rfl, hcb, hc⟩, hx⟩
  have HX1 := Lib.hid hx
  have HC := Lib.hid hc
  rw [World.size_alloc] at hcb
  have hs1 := hx.size
  rw [World.size_alloc] at hs1
  have HRB1 := Lib.hid ((hx.block _ (by simp)).trans HRB.out)
  clear hx hc
  go_wp2_with fail
  refine (s_l8Bent HC.out).mono ?_
  rintro e w2 ⟨⟨x, b, m, c, V, rfl, ho, hm⟩, hc, hg⟩
  have hb2 := (grown_block hg (by omega) (by omega)).trans HRB1.out
  have r0 : w2.cell? ⟨w.heap.size, 0, none⟩ = some (.int .i64 0) := by rw [cell_of_row w2 _ 0 _ _ _ hb2]; rfl
  have r1 : w2.cell? ⟨w.heap.size, 1, none⟩ = some (.slice none 0 0) := by rw [cell_of_row w2 _ 1 _ _ _ hb2]; rfl
  have rf0 : w2.frozen? ⟨w.heap.size, 0, none⟩ = false := frozen_of_row w2 _ 0 _ _ hb2
  have rf1 : w2.frozen? ⟨w.heap.size, 1, none⟩ = false := frozen_of_row w2 _ 1 _ _ hb2
  have hX2 : Ext w w2 := ext_grown (HX.out.trans HX1.out) hg (fun k hk => by have := Option.some.inj hk; omega)
  have HX2 := Lib.hid hX2
  have HW := Lib.hid (pair_store (w := w) hc hb2 (by intro y; simp) (by omega) (grown_ext (some cb) hX2) (Nat.le_refl _) x (.slice b m c) (by intro y; simp))
  have HO := Lib.hid (ho.keep (w' := (w2.setCell ⟨w.heap.size, 0, none⟩ (.int .i64 x)).setCell ⟨w.heap.size, 1, none⟩ (.slice b m c)) (fun k hk => HW.out.2.2.1 k (by have := (ho.lt k hk).1; omega)))
  have HZ0 := Lib.hid (show ((w2.setCell ⟨w.heap.size, 0, none⟩ (.int .i64 x)).setCell ⟨w.heap.size, 1, none⟩ (.slice b m c)).cell? ⟨w.heap.size, 0, none⟩ = some (.int .i64 x) by rw [cell_of_row _ _ 0 _ _ _ HW.out.2.2.2]; rfl)
  have HZ1 := Lib.hid (show ((w2.setCell ⟨w.heap.size, 0, none⟩ (.int .i64 x)).setCell ⟨w.heap.size, 1, none⟩ (.slice b m c)).cell? ⟨w.heap.size, 1, none⟩ = some (.slice b m c) by rw [cell_of_row _ _ 1 _ _ _ HW.out.2.2.2]; rfl)
  have HXF := Lib.hid (show Ext w ((w2.setCell ⟨w.heap.size, 0, none⟩ (.int .i64 x)).setCell ⟨w.heap.size, 1, none⟩ (.slice b m c)) from (hX2.setCell (p := ⟨w.heap.size, 0, none⟩) (Nat.le_refl _) _).setCell (p := ⟨w.heap.size, 1, none⟩) (Nat.le_refl _) _)
  clear hc hg ho hb2 hX2
  go_wp2_with fail
  refine bodyPost_ret (v := .agg #[.int .i64 x, .slice b m c]) (by simp [results, Try.results18, go_sem, HZ0.out, HZ1.out]) rfl ⟨⟨x, b, m, c, V, rfl, HO.out.ints, hm⟩, HXF.out⟩

/-- Where a mate is drawn: the answer's box, the copy's box, the copy's own row. -/
def mateBx (r4 b5 : Nat) (x : Int) (a : Option Addr) (n c : Nat) : Bx := (Bx.nil.upd r4 (#[.int .i64 0, .slice none 0 0], 26)).upd b5 (#[.int .i64 x, .slice a n c], 26)
theorem mateBx5 (r4 b5 : Nat) (x : Int) (a : Option Addr) (n c : Nat) : mateBx r4 b5 x a n c b5 = some (#[.int .i64 x, .slice a n c], 26) := Bx.same _ _ _
theorem mateBx4 {r4 b5 : Nat} (h : r4 ≠ b5) (x : Int) (a : Option Addr) (n c : Nat) : mateBx r4 b5 x a n c r4 = some (#[.int .i64 0, .slice none 0 0], 26) := (Bx.other _ _ h).trans (Bx.same _ _ _)
theorem mateBx0 {r4 b5 k : Nat} (h : k ≠ r4) (h' : k ≠ b5) (x : Int) (a : Option Addr) (n c : Nat) : mateBx r4 b5 x a n c k = none := (Bx.other _ _ h').trans (Bx.other _ _ h)
theorem pick5 : ∀ k, k < 5 → -100 ≤ ([0, 1, 4, -3, 7] : List Int)[k]?.getD 0 ∧ ([0, 1, 4, -3, 7] : List Int)[k]?.getD 0 ≤ 100 := by
  intro k hk
  match k, hk with
  | 0, _ => decide
  | 1, _ => decide
  | 2, _ => decide
  | 3, _ => decide
  | 4, _ => decide

set_option maxHeartbeats 4000000 in
theorem s_l8Mate {w : World} {cb : Nat} (h : Cur w cb) {x : Int} {a : Option Addr} {n cap : Nat} {V : List Int} (hi : Ints w a n cap V) (hb : n ≤ 1048576) :
    Calls Try.prog 78 #[.pointer (some ⟨cb, 0, none⟩), pair x a n cap] w fun e w' => (∃ (b : Option Addr) (c : Nat) (V' : List Int), e = .returned (.agg #[.int .i64 x, .slice b n c]) ∧ OwnI w' w.heap.size (.slice b n c) V') ∧ Cur w' cb ∧ w.grownBy w' (some cb) := by
  obtain ⟨W, hW⟩ : ∃ W, W = (w.alloc (.cells #[.int .i64 x, .slice a n cap] 26)).alloc (.cells #[.int .i64 0, .slice none 0 0] 26) := ⟨_, rfl⟩
  have HWS := Lib.hid (show W.heap.size = w.heap.size + 2 by rw [hW]; simp)
  have hX : Ext w W := by rw [hW]; exact (Ext.alloc _ _).trans (Ext.alloc _ _)
  have c0 : W.cell? ⟨w.heap.size, 0, none⟩ = some (.int .i64 x) := by rw [hW]; exact Ext.cellSome (Ext.alloc _ _) (by simp)
  have c1 : W.cell? ⟨w.heap.size, 1, none⟩ = some (.slice a n cap) := by rw [hW]; exact Ext.cellSome (Ext.alloc _ _) (by simp)
  have HRB := Lib.hid (show W.heap[w.heap.size + 1]? = some (.cells #[.int .i64 0, .slice none 0 0] 26 (0, 0)) by rw [hW]; exact heapA_new _ _ _ (by simp))
  have HC := Lib.hid (h.ext hX)
  have HX := Lib.hid hX
  have HCP := Lib.hid (s_l8Copy (p := x) (hi.ext hX) hb)
  have HL := Lib.hid hi.hlen
  have hcl := h.lt
  have hcap := hi.hcap
  have hmax := hi.hmax
  clear h hi hX
  go_enter Try.func78, Try.ntmps78
  go_wp2_with fail
  rw [← hW]
  refine HCP.out.mono ?_
  rintro e w1 ⟨⟨v, rfl, ho⟩, hx⟩
  obtain ⟨ac, nc, cc, rfl, HN⟩ := ho.var
  have hnc : nc = n := by have := HN.out; have := HL.out; omega
  subst hnc
  clear HN
  have hs1 := hx.size
  have hm1 := ho.ints.hcap
  have hm2 := ho.ints.hmax
  have HB2 := Lib.hid (show Bxs w (w1.alloc (.cells #[.int .i64 x, .slice ac nc cc] 26)) cb (mateBx (w.heap.size + 1) w1.heap.size x ac nc cc) from
    ((Bxs.start (HC.out.ext hx) (grown_ext (some cb) (HX.out.trans hx))).add (w.heap.size + 1) _ _ ((hx.block _ (by rw [HWS.out]; omega)).trans HRB.out) (by omega) (by omega) (pair_dry _ _ (slice_dry _ _ _))).new _ _ (pair_dry _ _ (slice_dry _ _ _)))
  have HO2 := Lib.hid (ho.ext (Ext.alloc w1 (.cells #[.int .i64 x, .slice ac nc cc] 26)))
  have hws := HWS.out
  have H5L := Lib.hid (fun k hk => (ho.lt k hk).2)
  clear ho hx c0 c1
  go_upto_region 3 with fail
  generalize w1.heap.size = b5 at HB2 hs1 H5L ⊢
  go_loopg [6] nc (fun gk ss wr => ∃ (s : Nat) (V' : List Int), Hid (nc ≤ gk + s) ∧ ss = .int .i64 (s : Int) ∧ Hid (V'.length = nc) ∧ Hid (Bxs w wr cb (mateBx (w.heap.size + 1) b5 x ac nc cc)) ∧ Hid (OwnI wr W.heap.size (.slice ac nc cc) V'))
  case atStart => exact ⟨1, V, Lib.hid (by omega), rfl, HL, HB2, HO2⟩
  case round =>
    obtain ⟨g1, h_g1⟩ : ∃ x, x = gk := ⟨_, rfl⟩
    subst h_g1
    obtain ⟨wr1, h_wr1⟩ : ∃ x, x = wr := ⟨_, rfl⟩
    subst h_wr1
    obtain ⟨s, V', HS, rfl, HVL, HD, HO⟩ := hrel
    have hne45 : w.heap.size + 1 ≠ b5 := by omega
    have HM1 := Lib.hid (fun (w' : World) (h : Bxs w w' cb (mateBx (w.heap.size + 1) b5 x ac nc cc)) => show w'.cell? ⟨b5, 1, none⟩ = some (.slice ac nc cc) from h.cell (mateBx5 _ _ _ _ _ _) 1)
    have d1 := HM1.out _ HD.out
    by_cases hlt : s < nc
    · obtain ⟨g, rfl, hgb, hgf, hgl⟩ := HO.out.block hlt
      have hg5 := H5L.out g rfl
      have hbx0 : Bxs w wr1.drew cb (mateBx (w.heap.size + 1) b5 x (some ⟨g, 0, none⟩) nc cc) := HD.out.ext (Ext.drew wr1)
      have hbxA : Bxs w (wr1.alloc (.cells #[.int .i64 0, .int .i64 1, .int .i64 4, .int .i64 (-3), .int .i64 7] 3)).drew cb (mateBx (w.heap.size + 1) b5 x (some ⟨g, 0, none⟩) nc cc) := (HD.out.ext (Ext.alloc _ _)).ext (Ext.drew _)
      have hoA : OwnI (wr1.alloc (.cells #[.int .i64 0, .int .i64 1, .int .i64 4, .int .i64 (-3), .int .i64 7] 3)).drew W.heap.size (.slice (some ⟨g, 0, none⟩) nc cc) V' := (HO.out.ext (Ext.alloc _ _)).ext (Ext.drew _)
      have hli : Ints (wr1.alloc (.cells #[.int .i64 0, .int .i64 1, .int .i64 4, .int .i64 (-3), .int .i64 7] 3)).drew (some ⟨wr1.heap.size, 0, none⟩) 5 5 [0, 1, 4, -3, 7] := (Ints.lit wr1 [0, 1, 4, -3, 7] 3 (by decide)).ext (Ext.drew _)
      have hcl2 := HD.out.cur.lt
      have hgw : w.heap.size ≤ g := by omega
      have hgc : g ≠ cb := by omega
      have HG0 := Lib.hid (mateBx0 (show g ≠ w.heap.size + 1 by omega) (show g ≠ b5 by omega) x (some ⟨g, 0, none⟩) nc cc)
      have hcb : cb < W.heap.size := by omega
      go_wp2_with fail
      go_region_held3 (fun w' => w'.cell? ⟨b5, 1, none⟩ = some (.slice (some ⟨g, 0, none⟩) nc cc))
        (first | with_reducible exact HM1.out _ hbx0 | with_reducible exact HM1.out _ hbxA | with_reducible exact HM1.out _ hbx | with_reducible exact HM1.out _ (hbx.putr hgc hgw HG0.out hcv (i64_dry _) _))
        (first
          | (go_at_call 86
             refine (s_l1PickInt hbxA.cur hli (by omega) (fun b off e => by simp only [Option.some.injEq, Addr.mk.injEq, and_true] at e; omega)).mono ?_
             rintro e w5 ⟨⟨k, hk, rfl⟩, hc, hg⟩
             obtain ⟨y, hy⟩ : ∃ y, y = ([0, 1, 4, -3, 7] : List Int)[k]?.getD 0 := ⟨_, rfl⟩
             rw [← hy]
             clear hy
             have hbx := hbxA.call hc hg
             have ho5 := hoA.calls hg hcb
             obtain ⟨q1, q2, hq, hcv⟩ := ho5.ints.at hlt
             simp only [Option.some.injEq, Addr.mk.injEq, and_true] at hq
             obtain ⟨rfl, rfl⟩ := hq
             rw [Nat.zero_add] at hcv
             obtain ⟨g2, hg2, _, hfv, _⟩ := ho5.block hlt
             obtain rfl : g = g2 := by simpa using hg2
             clear hg2
             clear hc hg)
          | fail)
      all_goals
        go_wp2_with fail
        go_roundg (g1 - 1)
        case measure => have := HS.out; omega
        case rel => exact ⟨s + 1, _, Lib.hid (by have := HS.out; omega), by go_num, Lib.hid (by rw [List.length_set]; exact HVL.out), Lib.hid (hbx.putr hgc hgw HG0.out hcv (i64_dry _) _), Lib.hid (ho5.set s y)⟩
    · have e0 : wr1.cell? ⟨b5, 0, none⟩ = some (.int .i64 x) := HD.out.cell (mateBx5 _ _ _ _ _ _) 0
      have r0 : wr1.cell? ⟨w.heap.size + 1, 0, none⟩ = some (.int .i64 0) := HD.out.cell (mateBx4 hne45 _ _ _ _) 0
      have r1 : wr1.cell? ⟨w.heap.size + 1, 1, none⟩ = some (.slice none 0 0) := HD.out.cell (mateBx4 hne45 _ _ _ _) 1
      have rf := HD.out.free (mateBx4 hne45 _ _ _ _)
      have HP := Lib.hid (HD.out.put2 (mateBx4 hne45 _ _ _ _) (.int .i64 x) (.slice ac nc cc) (i64_dry _) (slice_dry _ _ _))
      have HOP := Lib.hid (HO.out.put2 (show w.heap.size + 1 < W.heap.size by omega) (.int .i64 x) (.slice ac nc cc))
      have HZ0 := Lib.hid (show ((wr1.setCell ⟨w.heap.size + 1, 0, none⟩ (.int .i64 x)).setCell ⟨w.heap.size + 1, 1, none⟩ (.slice ac nc cc)).cell? ⟨w.heap.size + 1, 0, none⟩ = some (.int .i64 x) from HP.out.cell (Bx.same _ _ _) 0)
      have HZ1 := Lib.hid (show ((wr1.setCell ⟨w.heap.size + 1, 0, none⟩ (.int .i64 x)).setCell ⟨w.heap.size + 1, 1, none⟩ (.slice ac nc cc)).cell? ⟨w.heap.size + 1, 1, none⟩ = some (.slice ac nc cc) from HP.out.cell (Bx.same _ _ _) 1)
      go_wp2_with fail
      refine bodyPost_ret (v := .agg #[.int .i64 x, .slice ac nc cc]) (by simp [results, Try.results78, go_sem, HZ0.out, HZ1.out]) rfl ⟨⟨ac, cc, V', rfl, HOP.out.mono (by omega)⟩, HP.out.cur, HP.out.grown⟩

/-- Two answers' boxes, and a game's. -/
def twoBx (r2 r3 b5 : Nat) (x : Int) (a : Option Addr) (n c : Nat) : Bx := ((Bx.nil.upd r2 (#[.int .i64 0, .slice none 0 0], 26)).upd r3 (#[.int .i64 0, .slice none 0 0], 26)).upd b5 (#[.int .i64 x, .slice a n c], 26)
theorem twoBx5 (r2 r3 b5 : Nat) (x : Int) (a : Option Addr) (n c : Nat) : twoBx r2 r3 b5 x a n c b5 = some (#[.int .i64 x, .slice a n c], 26) := Bx.same _ _ _
theorem twoBx3 {r2 r3 b5 : Nat} (h : r3 ≠ b5) (x : Int) (a : Option Addr) (n c : Nat) : twoBx r2 r3 b5 x a n c r3 = some (#[.int .i64 0, .slice none 0 0], 26) := (Bx.other _ _ h).trans (Bx.same _ _ _)
theorem twoBx2 {r2 r3 b5 : Nat} (h : r2 ≠ b5) (h' : r2 ≠ r3) (x : Int) (a : Option Addr) (n c : Nat) : twoBx r2 r3 b5 x a n c r2 = some (#[.int .i64 0, .slice none 0 0], 26) := (Bx.other _ _ h).trans ((Bx.other _ _ h').trans (Bx.same _ _ _))

set_option maxHeartbeats 4000000 in
theorem s_DrawAddGames {w : World} {a : Option Addr} {n cap : Nat} (h : Bytes w a n cap) (hn : n ≤ 1048576) :
    Calls Try.prog 24 #[.slice a n cap] w fun e w' => (∃ (x y : Int) (b b' : Option Addr) (m c m' c' : Nat) (V V' : List Int), e = .returned (.tuple #[.agg #[.int .i64 x, .slice b m c], .agg #[.int .i64 y, .slice b' m' c']]) ∧ Ints w' b m c V ∧ Ints w' b' m' c' V' ∧ m ≤ 33 ∧ m' ≤ 33) ∧ Ext w w' := by
  obtain ⟨W, hW⟩ : ∃ W, W = (w.alloc (.cells #[.int .i64 0, .slice none 0 0] 26)).alloc (.cells #[.int .i64 0, .slice none 0 0] 26) := ⟨_, rfl⟩
  have HWS := Lib.hid (show W.heap.size = w.heap.size + 2 by rw [hW]; simp)
  have hX : Ext w W := by rw [hW]; exact (Ext.alloc _ _).trans (Ext.alloc _ _)
  have HR3 := Lib.hid (show W.heap[w.heap.size + 1]? = some (.cells #[.int .i64 0, .slice none 0 0] 26 (0, 0)) by rw [hW]; exact heapA_new _ _ _ (by simp))
  have HR2 := Lib.hid (show W.heap[w.heap.size]? = some (.cells #[.int .i64 0, .slice none 0 0] 26 (0, 0)) by rw [hW, heapA_old _ _ _ (by simp)]; exact heapA_new _ _ _ rfl)
  have HX := Lib.hid hX
  have HN := Lib.hid (s_l1New (h.ext hX) hn)
  clear h hX
  go_enter Try.func24, Try.ntmps24
  go_wp2_with fail
  rw [← hW]
  refine HN.out.mono ?_
  rintro e w1 ⟨⟨cb, rfl, hcb, hc⟩, hx⟩
  have hws := HWS.out
  have hs1 := hx.size
  have hcl := hc.lt
  have HB1 := Lib.hid (((Bxs.start hc (grown_ext (some cb) (HX.out.trans hx))).add w.heap.size _ _ ((hx.block _ (by omega)).trans HR2.out) (by omega) (by omega) (pair_dry _ _ (slice_dry _ _ _))).add (w.heap.size + 1) _ _ ((hx.block _ (by omega)).trans HR3.out) (by omega) (by omega) (pair_dry _ _ (slice_dry _ _ _)))
  clear hc hx HWS HR2 HR3 hW
  go_wp2_with fail
  refine (s_l8Bent HB1.out.cur).mono ?_
  rintro e w2 ⟨⟨x, b, m, c, V, rfl, ho, hm⟩, hc, hg⟩
  have hs2 := hg.size
  have HB2 := Lib.hid (show Bxs w (w2.alloc (.cells #[.int .i64 x, .slice b m c] 26)) cb (twoBx w.heap.size (w.heap.size + 1) w2.heap.size x b m c) from (HB1.out.call hc hg).new _ _ (pair_dry _ _ (slice_dry _ _ _)))
  have HO2 := Lib.hid (ho.ext (Ext.alloc w2 (.cells #[.int .i64 x, .slice b m c] 26)))
  have hO2L := Lib.hid (fun k hk => (ho.lt k hk).2)
  have hm1 := ho.ints.hcap
  have hm2 := ho.ints.hmax
  clear hc hg ho HB1
  go_wp2_with fail
  refine (s_l1Once HB2.out.cur 10 (by omega)).mono ?_
  rintro e w3 ⟨⟨once, rfl⟩, hc, hg⟩
  have hs3 : w2.heap.size + 1 ≤ w3.heap.size := by have := hg.size; simpa using this
  have HB3 := Lib.hid (HB2.out.call hc hg)
  have HO3 := Lib.hid (HO2.out.calls hg hcl)
  generalize w2.heap.size = b5 at HB3 hs2 hs3 hO2L ⊢
  clear hc hg HB2 HO2
  have hn25 : w.heap.size ≠ b5 := by omega
  have hn35 : w.heap.size + 1 ≠ b5 := by omega
  have hn23 : w.heap.size ≠ w.heap.size + 1 := by omega
  have HS := Lib.hid (fun (w' : World) (f : Bx) (h : Bxs w w' cb f) (hf : f b5 = some (#[.int .i64 x, .slice b m c], 26)) => (⟨h.cell hf 0, h.cell hf 1⟩ : w'.cell? ⟨b5, 0, none⟩ = some (.int .i64 x) ∧ w'.cell? ⟨b5, 1, none⟩ = some (.slice b m c)))
  have HF5 := Lib.hid (twoBx5 w.heap.size (w.heap.size + 1) b5 x b m c)
  have HB3d := Lib.hid (HB3.out.ext (Ext.drew w3))
  cases once
  · go_wp2_with fail
    refine wp_region_held_drew (S := (fun w' => w'.cell? ⟨b5, 0, none⟩ = some (.int .i64 x) ∧ w'.cell? ⟨b5, 1, none⟩ = some (.slice b m c))) (by kernel_rfl) ?_ (fun hHeld => ?_)
    · exact HS.out _ _ HB3d.out HF5.out
    have p0 := hHeld.1
    have p1 := hHeld.2
    refine tk (i := 0) (h := ?_)
    try simp only [Act.put, sA, sB, sC]
    refine tk (i := 1) (h := ?_)
    try simp only [Act.put, sA, sB, sC]
    refine tk (i := 2) (h := ?_)
    try simp only [Act.put, sA, sB, sC]
    refine rd (i := 3) (h := fun K hK => ?_)
    go_simp
    refine (s_l8Mate HB3d.out.cur (x := x) (HO3.out.ints.ext (Ext.drew w3)) (by omega)).mono ?_; rintro e w4 ⟨⟨b', c', V', rfl, ho'⟩, hc, hg⟩; have HB4 := Lib.hid (HB3d.out.call hc hg); have HO4 := Lib.hid ((HO3.out.ext (Ext.drew w3)).calls hg hcl); have HO4' := Lib.hid ho'; have hs4 := hg.size; have r20 : w4.cell? ⟨w.heap.size, 0, none⟩ = some (.int .i64 0) := HB4.out.cell (twoBx2 hn25 hn23 _ _ _ _) 0; have r21 : w4.cell? ⟨w.heap.size, 1, none⟩ = some (.slice none 0 0) := HB4.out.cell (twoBx2 hn25 hn23 _ _ _ _) 1; have r2f := HB4.out.free (twoBx2 hn25 hn23 x b m c); have r30 : w4.cell? ⟨w.heap.size + 1, 0, none⟩ = some (.int .i64 0) := HB4.out.cell (twoBx3 hn35 _ _ _ _) 0; have r31 : w4.cell? ⟨w.heap.size + 1, 1, none⟩ = some (.slice none 0 0) := HB4.out.cell (twoBx3 hn35 _ _ _ _) 1; have r3f := HB4.out.free (twoBx3 hn35 x b m c); clear hc hg ho'
    go_wp2_with fail
    refine hK.out _ _ ?_ (fun hHeld => ?_)
    · exact HS.out _ _ HB4.out HF5.out
    clear hK K
    try simp only [Act.put, sA, sB, sC]
    have HB5 := Lib.hid (HB4.out.put2 (twoBx2 hn25 hn23 _ _ _ _) (.int .i64 x) (.slice b m c) (i64_dry _) (slice_dry _ _ _))
    refine rd (i := 4) (h := fun K hK => ?_)
    go_simp
    refine hK.out _ _ ?_ (fun hHeld => ?_)
    · exact HS.out _ _ HB5.out ((Bx.other _ _ (Ne.symm hn25)).trans HF5.out)
    clear hK K
    try simp only [Act.put, sA, sB, sC]
    have HB6 := Lib.hid (HB5.out.put2 ((Bx.other _ _ (Ne.symm hn23)).trans (twoBx3 hn35 _ _ _ _)) (.int .i64 x) (.slice b' m c') (i64_dry _) (slice_dry _ _ _))
    refine rd (i := 5) (h := fun K hK => ?_)
    go_simp
    refine hK.out _ _ ?_ (fun hHeld => ?_)
    · exact HS.out _ _ HB6.out ((Bx.other _ _ (Ne.symm hn35)).trans ((Bx.other _ _ (Ne.symm hn25)).trans HF5.out))
    clear hK K
    try simp only [Act.put, sA, sB, sC]
    refine wpAnyH_done (by kernel_rfl) ?_ _
    have HW6 := Lib.hid ((HO4.out.put2 (show w.heap.size < w1.heap.size by omega) (.int .i64 x) (.slice b m c)).put2 (show w.heap.size + 1 < w1.heap.size by omega) (.int .i64 x) (.slice b' m c'))
    have HW6' := Lib.hid ((HO4'.out.put2 (show w.heap.size < w3.drew.heap.size by simp; omega) (.int .i64 x) (.slice b m c)).put2 (show w.heap.size + 1 < w3.drew.heap.size by simp; omega) (.int .i64 x) (.slice b' m c'))
    have HX6 := Lib.hid (HB6.out.all (by omega))
    have z20 := HB6.out.c0 ((Bx.other _ _ hn23).trans (Bx.same _ _ _))
    have z21 := HB6.out.c1 ((Bx.other _ _ hn23).trans (Bx.same _ _ _))
    have z30 := HB6.out.c0 (Bx.same _ _ _)
    have z31 := HB6.out.c1 (Bx.same _ _ _)
    go_wp2_with fail
    refine bodyPost_ret (v := .tuple #[.agg #[.int .i64 x, .slice b m c], .agg #[.int .i64 x, .slice b' m c']]) (by simp [results, Try.results24, go_sem, z20, z21, z30, z31]) rfl ⟨⟨x, x, b, b', m, c, m, c', V, V', rfl, HW6.out.ints, HW6'.out.ints, hm, hm⟩, HX6.out⟩
  · go_wp2_with fail
    refine wp_region_held_drew (S := (fun w' => w'.cell? ⟨b5, 0, none⟩ = some (.int .i64 x) ∧ w'.cell? ⟨b5, 1, none⟩ = some (.slice b m c))) (by kernel_rfl) ?_ (fun hHeld => ?_)
    · exact HS.out _ _ HB3d.out HF5.out
    have p0 := hHeld.1
    have p1 := hHeld.2
    refine tk (i := 0) (h := ?_)
    try simp only [Act.put, sA, sB, sC]
    refine tk (i := 1) (h := ?_)
    try simp only [Act.put, sA, sB, sC]
    refine rd (i := 2) (h := fun K hK => ?_)
    go_simp
    refine (s_l8Bent HB3d.out.cur).mono ?_; rintro e w4 ⟨⟨y, b', m', c', V', rfl, ho', hm'⟩, hc, hg⟩; have HB4 := Lib.hid (HB3d.out.call hc hg); have HO4 := Lib.hid ((HO3.out.ext (Ext.drew w3)).calls hg hcl); have HO4' := Lib.hid ho'; have hs4 := hg.size; have r20 : w4.cell? ⟨w.heap.size, 0, none⟩ = some (.int .i64 0) := HB4.out.cell (twoBx2 hn25 hn23 _ _ _ _) 0; have r21 : w4.cell? ⟨w.heap.size, 1, none⟩ = some (.slice none 0 0) := HB4.out.cell (twoBx2 hn25 hn23 _ _ _ _) 1; have r2f := HB4.out.free (twoBx2 hn25 hn23 x b m c); have r30 : w4.cell? ⟨w.heap.size + 1, 0, none⟩ = some (.int .i64 0) := HB4.out.cell (twoBx3 hn35 _ _ _ _) 0; have r31 : w4.cell? ⟨w.heap.size + 1, 1, none⟩ = some (.slice none 0 0) := HB4.out.cell (twoBx3 hn35 _ _ _ _) 1; have r3f := HB4.out.free (twoBx3 hn35 x b m c); clear hc hg ho'
    go_wp2_with fail
    refine hK.out _ _ ?_ (fun hHeld => ?_)
    · exact HS.out _ _ HB4.out HF5.out
    clear hK K
    try simp only [Act.put, sA, sB, sC]
    have HB5 := Lib.hid (HB4.out.put2 (twoBx2 hn25 hn23 _ _ _ _) (.int .i64 x) (.slice b m c) (i64_dry _) (slice_dry _ _ _))
    refine rd (i := 3) (h := fun K hK => ?_)
    go_simp
    refine hK.out _ _ ?_ (fun hHeld => ?_)
    · exact HS.out _ _ HB5.out ((Bx.other _ _ (Ne.symm hn25)).trans HF5.out)
    clear hK K
    try simp only [Act.put, sA, sB, sC]
    have HB6 := Lib.hid (HB5.out.put2 ((Bx.other _ _ (Ne.symm hn23)).trans (twoBx3 hn35 _ _ _ _)) (.int .i64 y) (.slice b' m' c') (i64_dry _) (slice_dry _ _ _))
    refine rd (i := 4) (h := fun K hK => ?_)
    go_simp
    refine hK.out _ _ ?_ (fun hHeld => ?_)
    · exact HS.out _ _ HB6.out ((Bx.other _ _ (Ne.symm hn35)).trans ((Bx.other _ _ (Ne.symm hn25)).trans HF5.out))
    clear hK K
    try simp only [Act.put, sA, sB, sC]
    refine wpAnyH_done (by kernel_rfl) ?_ _
    have HW6 := Lib.hid ((HO4.out.put2 (show w.heap.size < w1.heap.size by omega) (.int .i64 x) (.slice b m c)).put2 (show w.heap.size + 1 < w1.heap.size by omega) (.int .i64 y) (.slice b' m' c'))
    have HW6' := Lib.hid ((HO4'.out.put2 (show w.heap.size < w3.drew.heap.size by simp; omega) (.int .i64 x) (.slice b m c)).put2 (show w.heap.size + 1 < w3.drew.heap.size by simp; omega) (.int .i64 y) (.slice b' m' c'))
    have HX6 := Lib.hid (HB6.out.all (by omega))
    have z20 := HB6.out.c0 ((Bx.other _ _ hn23).trans (Bx.same _ _ _))
    have z21 := HB6.out.c1 ((Bx.other _ _ hn23).trans (Bx.same _ _ _))
    have z30 := HB6.out.c0 (Bx.same _ _ _)
    have z31 := HB6.out.c1 (Bx.same _ _ _)
    go_wp2_with fail
    refine bodyPost_ret (v := .tuple #[.agg #[.int .i64 x, .slice b m c], .agg #[.int .i64 y, .slice b' m' c']]) (by simp [results, Try.results24, go_sem, z20, z21, z30, z31]) rfl ⟨⟨x, y, b, b', m, c, m', c', V, V', rfl, HW6.out.ints, HW6'.out.ints, hm, by omega⟩, HX6.out⟩

end Go.Proofs.Ytgohdmnbnhehnaa
