/- FnExactAssignmentGame answers true, whatever the market: the walk. -/
import Derived.Test.YtokpmflhgehicaaMarkM
import Derived.Test.YtokpmflhgehicaaAsg
namespace Go.Proofs.Ytokpmflhgehicaa
set_option linter.unusedVariables false
open Go.RowKit

theorem grown_cell' {w w' : World} {row : Option Nat} {a : Addr} {v : Value} (hg : w.grownBy w' row) (h : w.cell? a = some v) (hne : row ≠ some a.block) : w'.cell? a = some v := by
  have hb := hg.block a.block (World.block_lt_of_cell? w a h) (fun e => hne e.symm)
  rw [← h]
  simp [World.cell?, hb]
theorem frame_cell {w w' : World} {top : Nat} {a : Addr} {v : Value} (hf : ∀ k, top ≤ k → k < w.heap.size → w'.heap[k]? = w.heap[k]?) (h : w.cell? a = some v) (ht : top ≤ a.block) : w'.cell? a = some v := by
  have hb := hf a.block ht (World.block_lt_of_cell? w a h)
  rw [← h]
  simp [World.cell?, hb]
theorem below_cell {w w' : World} {base : Nat} {a : Addr} {v : Value} (hf : Below base w w') (h : w.cell? a = some v) (ht : a.block < base) : w'.cell? a = some v := by
  have hb := hf.block a.block ht
  rw [← h]
  simp [World.cell?, hb]
theorem cnt_small' : ∀ L : List (List Int), (∀ l ∈ L, l.length ≤ 1048576) → cnt L ≤ 1048576 * L.length
  | [], _ => by simp [cnt]
  | l :: L, h => by
    have h1 := cnt_small' L (fun m hm => h m (by simp [hm]))
    have h2 := h l (by simp)
    have h3 : cnt (l :: L) = (l.length : Int) + cnt L := by simp [cnt]
    rw [h3, List.length_cons]
    omega
theorem eqP' (p : Nat) (l : List Int) : (decide ((p : Int) = (p : Int)) && decide (l = l)) = true := by simp

set_option maxHeartbeats 4000000 in
theorem l_FnExactAssignmentGame {w : World} {x y : Int} {a : Option Addr} {n cap : Nat} {l : List (List Int)} (h : IntSS w a n cap l) :
    Calls Try.prog 7 #[triple x y a n cap] w fun e w' => e = .returned (.bool true) ∧ Ext w w' := by
  have hm : n ≤ 9223372036854775807 := Nat.le_trans h.hcap h.hmax
  have HL := Lib.hid h.hlen
  have h1 := h.alloc (.cells #[.int .i64 x, .int .i64 y, .slice a n cap] 49)
  have HX := Lib.hid (Ext.alloc w (.cells #[.int .i64 x, .int .i64 y, .slice a n cap] 49))
  by_cases hlt : szSS 1048576 l < 0
  · go_enter Try.func7, Try.ntmps7
    go_wp2_with fail
    refine (l_szMarket _ _ _ h1 (by omega) (by omega)).mono ?_
    rintro e w1 ⟨rfl, hx⟩
    have HX1 := Lib.hid (HX.out.trans hx)
    clear hx
    go_wp2
    go_ret
    exact ⟨rfl, HX1.out⟩
  · have hsz := szSS_le (L := l) (by omega)
    have hb : n ≤ 1048576 := by have := HL.out; omega
    have HBB := Lib.hid (show ∀ r ∈ l, r.length ≤ 1099511627776 from fun r hr => by have := hsz.2 r hr; omega)
    have hcnt := cnt_small' l hsz.2
    have hcnt0 := cnt_nonneg l
    obtain ⟨z, hz⟩ : ∃ z, z = cnt l := ⟨_, rfl⟩
    rw [← hz] at hcnt hcnt0
    have hz1 : z ≤ 1099511627776 := by have := hsz.1; omega
    have HZ := Lib.hid hz
    have hlen := asgL_len x y l
    clear hsz hcnt hz
    go_enter Try.func7, Try.ntmps7
    go_wp2_with fail
    refine (l_szMarket _ _ _ h1 (by omega) (by omega)).mono ?_
    rintro e w1 ⟨rfl, hx⟩
    have c0 : w1.cell? ⟨w.heap.size, 0, none⟩ = some (.int .i64 x) := hx.cellSome (by simp)
    have c1 : w1.cell? ⟨w.heap.size, 1, none⟩ = some (.int .i64 y) := hx.cellSome (by simp)
    have c2 : w1.cell? ⟨w.heap.size, 2, none⟩ = some (.slice a n cap) := hx.cellSome (by simp)
    have HX1 := Lib.hid (HX.out.trans hx)
    have h2 := h1.ext hx
    clear hx h1 h
    -- the reference's answer
    go_wp2_with fail
    refine (l_toMarketO h2 (by omega) HBB.out).mono ?_
    rintro e w2 ⟨b, rfl, hrow, hx⟩
    have X12 := Lib.hid hx
    clear hx
    go_wp2_with fail
    refine (s_AssignmentGame (x := x) (y := y) (hrow.intss)).mono ?_
    rintro e w3 ⟨⟨v0, rfl, ho⟩, hx⟩
    obtain ⟨a0, n0, p0, rfl, N0⟩ := ho.var
    have X13 := Lib.hid ((X12.out.trans hx).trans (Ext.alloc _ (.cells #[.int .i64 (asgP x y l : Int), .slice a0 n0 p0] 64)))
    have O0 := Lib.hid (ho.ext (Ext.alloc _ (.cells #[.int .i64 (asgP x y l : Int), .slice a0 n0 p0] 64)))
    have k0 := (X12.out.trans hx).cellSome c0
    have k1 := (X12.out.trans hx).cellSome c1
    have k2 := (X12.out.trans hx).cellSome c2
    have c0' := X13.out.cellSome c0
    have c1' := X13.out.cellSome c1
    have c2' := X13.out.cellSome c2
    have HX3 := Lib.hid (HX1.out.trans X13.out)
    have H3 := Lib.hid (h2.ext X13.out)
    have hlt3 : w.heap.size < w3.heap.size := World.block_lt_of_cell? _ _ k0
    clear hx ho hrow c0 c1 c2 h2
    -- the program's answer
    go_wp2_with fail
    refine (l_toMarketO H3.out (by omega) HBB.out).mono ?_
    rintro e w4 ⟨b2, rfl, hrow, hx⟩
    have c0 := hx.cellSome c0'
    have c1 := hx.cellSome c1'
    have c2 := hx.cellSome c2'
    have e0 : w4.cell? ⟨w3.heap.size, 0, none⟩ = some (.int .i64 (asgP x y l : Int)) := hx.cellSome (by simp)
    have e1 : w4.cell? ⟨w3.heap.size, 1, none⟩ = some (.slice a0 n0 p0) := hx.cellSome (by simp)
    have X34 := Lib.hid hx
    have hlt4 : w.heap.size < w4.heap.size := World.block_lt_of_cell? _ _ c0
    have hlt34 : w3.heap.size < w4.heap.size := World.block_lt_of_cell? _ _ e0
    have R2 := Lib.hid (hrow.top.ext (Ext.alloc _ (.cells #[.int .i64 x, .int .i64 y, .slice (some ⟨b2, 0, none⟩) n n] 53)))
    have HI := Lib.hid (i_AssignmentGame (x := x) (y := y) R2.out.own.intss)
    clear hx hrow c0' c1' c2' k0 k1 k2
    go_wp2_with fail
    refine HI.out.mono ?_
    rintro e w5 ⟨⟨v1, rfl, ho⟩, hx⟩
    obtain ⟨a1, n1, p1, rfl, N1⟩ := ho.var
    have hx' := (Ext.alloc w4 (.cells #[.int .i64 x, .int .i64 y, .slice (some ⟨b2, 0, none⟩) n n] 53)).trans hx
    replace c0 := hx'.cellSome c0
    replace c1 := hx'.cellSome c1
    replace c2 := hx'.cellSome c2
    replace e0 := hx'.cellSome e0
    replace e1 := hx'.cellSome e1
    have d0 : w5.cell? ⟨w4.heap.size, 0, none⟩ = some (.int .i64 x) := hx.cellSome (by simp)
    have d1 : w5.cell? ⟨w4.heap.size, 1, none⟩ = some (.int .i64 y) := hx.cellSome (by simp)
    have d2 : w5.cell? ⟨w4.heap.size, 2, none⟩ = some (.slice (some ⟨b2, 0, none⟩) n n) := hx.cellSome (by simp)
    have hlt5 : w.heap.size < w5.heap.size := World.block_lt_of_cell? _ _ c0
    have hlt35 : w3.heap.size < w5.heap.size := World.block_lt_of_cell? _ _ e0
    have hlt45 : w4.heap.size < w5.heap.size := World.block_lt_of_cell? _ _ d0
    have hxb := Ext.alloc w5 (.cells #[.int .i64 (asgP x y l : Int), .slice a1 n1 p1] 64)
    have X35 := Lib.hid ((X34.out.trans hx').trans hxb)
    have R3 := Lib.hid ((R2.out.ext hx).ext hxb)
    have O1 := Lib.hid (ho.ext hxb)
    have L1 := Lib.hid (show ∀ k, (Value.slice a1 n1 p1).ownBlock = some k → w4.heap.size + 1 ≤ k ∧ k < w5.heap.size from fun k hk => by simpa using ho.lt k hk)
    clear ho hx hx' hxb
    -- they are equal
    have HE := Lib.hid (l_eqGame (x := (asgP x y l : Int)) (x' := (asgP x y l : Int)) O1.out.ints (O0.out.ext X35.out).ints)
    rw [eqP'] at HE
    have Hc0 := Lib.hid c0
    have Hc1 := Lib.hid c1
    have Hc2 := Lib.hid c2
    have Hd0 := Lib.hid d0
    have Hd1 := Lib.hid d1
    have Hd2 := Lib.hid d2
    have He0 := Lib.hid e0
    have He1 := Lib.hid e1
    go_wp2_with fail
    refine HE.out.mono ?_
    rintro e w6 ⟨rfl, hx⟩
    have hx' := (Ext.alloc w5 (.cells #[.int .i64 (asgP x y l : Int), .slice a1 n1 p1] 64)).trans hx
    clear c0 c1 c2 d0 d1 d2 e0 e1
    have c0 := hx'.cellSome Hc0.out
    have c1 := hx'.cellSome Hc1.out
    have c2 := hx'.cellSome Hc2.out
    have d0 := hx'.cellSome Hd0.out
    have d1 := hx'.cellSome Hd1.out
    have d2 := hx'.cellSome Hd2.out
    have e0 := hx'.cellSome He0.out
    have e1 := hx'.cellSome He1.out
    have g0 : w6.cell? ⟨w5.heap.size, 0, none⟩ = some (.int .i64 (asgP x y l : Int)) := hx.cellSome (by simp)
    have g1 : w6.cell? ⟨w5.heap.size, 1, none⟩ = some (.slice a1 n1 p1) := hx.cellSome (by simp)
    have X36 := Lib.hid (X35.out.trans hx)
    have R4 := Lib.hid (R3.out.ext hx)
    have O2 := Lib.hid (O1.out.ext hx)
    clear hx hx' Hc0 Hc1 Hc2 Hd0 Hd1 Hd2 He0 He1
    -- the argument is as before
    go_wp2_with fail
    have hk : Ext w6 w6.drew := Ext.drew w6
    have H6 := Lib.hid ((H3.out.ext X36.out).ext hk)
    have R5 := Lib.hid (R4.out.ext hk)
    go_region_held3 (fun w' => w'.cell? ⟨w.heap.size, 0, none⟩ = some (.int .i64 x) ∧ w'.cell? ⟨w.heap.size, 1, none⟩ = some (.int .i64 y) ∧ w'.cell? ⟨w.heap.size, 2, none⟩ = some (.slice a n cap) ∧ w'.cell? ⟨w4.heap.size, 0, none⟩ = some (.int .i64 x) ∧ w'.cell? ⟨w4.heap.size, 1, none⟩ = some (.int .i64 y) ∧ w'.cell? ⟨w4.heap.size, 2, none⟩ = some (.slice (some ⟨b2, 0, none⟩) n n) ∧ Ext w6 w')
      (exact ⟨hk.cellSome c0, hk.cellSome c1, hk.cellSome c2, hk.cellSome d0, hk.cellSome d1, hk.cellSome d2, hk⟩)
      (first
        | (go_at_call 30; refine (l_toMarketO H6.out (by omega) HBB.out).mono ?_; rintro e w7 ⟨b3, rfl, hrow, hx6⟩; have hk := hk.trans hx6)
        | (go_at_call 33; refine (l_eqMarket (R5.out.ext hx6).own.intss hrow.intss).mono ?_; rintro e w8 ⟨rfl, hx7⟩; have hk := hk.trans hx7))
    replace c0 := hk.cellSome c0
    replace c1 := hk.cellSome c1
    replace c2 := hk.cellSome c2
    replace d0 := hk.cellSome d0
    replace d1 := hk.cellSome d1
    replace d2 := hk.cellSome d2
    replace e0 := hk.cellSome e0
    replace e1 := hk.cellSome e1
    replace g0 := hk.cellSome g0
    replace g1 := hk.cellSome g1
    have X37 := Lib.hid (X36.out.trans hk)
    have R6 := Lib.hid (R4.out.ext hk)
    have O3 := Lib.hid (O2.out.ext hk)
    clear hk H6 R5
    -- the argument is marked
    go_wp2_with fail
    have he3 := World.block_lt_of_cell? _ _ e0
    refine (l_markMarket (x := x) (y := y) R6.out (by simp at he3 ⊢; omega) 1 (by omega) (by rw [← HZ.out]; omega)).mono ?_
    rw [← HZ.out]
    rintro e w10 ⟨rfl, hbl, hf⟩
    have X310 := Lib.hid (show Ext (w3.alloc (.cells #[.int .i64 (asgP x y l : Int), .slice a0 n0 p0] 64)) w10 from Below.trans X37.out hbl)
    have O4 := Lib.hid (O3.out.keep fun k hk => hf k (by have h1 := (O3.out.lt k hk).1; simp at h1; omega) (O3.out.lt k hk).2)
    replace c0 := below_cell hbl c0 (by first | (simp; done) | (simp; omega))
    replace c1 := below_cell hbl c1 (by first | (simp; done) | (simp; omega))
    replace c2 := below_cell hbl c2 (by first | (simp; done) | (simp; omega))
    replace e0 := below_cell hbl e0 (by first | (simp; done) | (simp; omega))
    replace e1 := below_cell hbl e1 (by first | (simp; done) | (simp; omega))
    replace g0 := frame_cell hf g0 (by first | omega | (simp; done) | (simp; omega))
    replace g1 := frame_cell hf g1 (by first | omega | (simp; done) | (simp; omega))
    clear hbl hf he3 d0 d1 d2
    have HE := Lib.hid (l_eqGame (x := (asgP x y l : Int)) (x' := (asgP x y l : Int)) O4.out.ints (O0.out.ext X310.out).ints)
    rw [eqP'] at HE
    have hn1 : n1 ≤ 1048576 := by have := N1.out; omega
    have hneg : ¬ (1 + z < 0) := by omega
    go_wp2_with fail
    refine HE.out.mono ?_
    rintro e w11 ⟨rfl, hx⟩
    replace c0 := hx.cellSome c0
    replace c1 := hx.cellSome c1
    replace c2 := hx.cellSome c2
    replace e0 := hx.cellSome e0
    replace e1 := hx.cellSome e1
    replace g0 := hx.cellSome g0
    replace g1 := hx.cellSome g1
    have X311 := Lib.hid (X310.out.trans hx)
    have O5 := Lib.hid (O4.out.ext hx)
    clear hx
    -- the answer is marked
    have HB1 := Lib.hid (show ∀ k : Nat, k = w.heap.size ∨ k = w3.heap.size ∨ k = w5.heap.size → (Value.slice a1 n1 p1).ownBlock ≠ some k from fun k hk e => by have h1 := L1.out k e; omega)
    go_wp2_with fail
    refine (l_markGame (x := (asgP x y l : Int)) O5.out 1 (by omega) (by omega)).mono ?_
    rintro e w12 ⟨rfl, ho, hg⟩
    have X312 := Lib.hid (ext_grown X311.out hg fun k hk => by have h1 := (L1.out k hk).1; simp; omega)
    have O6 := Lib.hid ho
    replace c0 := grown_cell' hg c0 (HB1.out _ (.inl rfl))
    replace c1 := grown_cell' hg c1 (HB1.out _ (.inl rfl))
    replace c2 := grown_cell' hg c2 (HB1.out _ (.inl rfl))
    replace e0 := grown_cell' hg e0 (HB1.out _ (.inr (.inl rfl)))
    replace e1 := grown_cell' hg e1 (HB1.out _ (.inr (.inl rfl)))
    replace g0 := grown_cell' hg g0 (HB1.out _ (.inr (.inr rfl)))
    replace g1 := grown_cell' hg g1 (HB1.out _ (.inr (.inr rfl)))
    clear ho hg
    have hneg1 : ¬ (1 + (n1 : Int) < 0) := by omega
    have hne : ((1 + (n1 : Int)) != (1 + (n1 : Int))) = false := by simp
    go_wp2_with fail
    refine (l_heldGame (x := (asgP x y l : Int)) 1 O6.out.ints (by omega) (by omega)).mono ?_
    rintro e w13 ⟨rfl, hx⟩
    replace c0 := hx.cellSome c0
    replace c1 := hx.cellSome c1
    replace c2 := hx.cellSome c2
    replace e0 := hx.cellSome e0
    replace e1 := hx.cellSome e1
    replace g0 := hx.cellSome g0
    replace g1 := hx.cellSome g1
    have X313 := Lib.hid (X312.out.trans hx)
    have O7 := Lib.hid (O6.out.ext hx)
    clear hx
    -- once more
    have H12 := Lib.hid (H3.out.ext X313.out)
    go_wp2_with fail
    refine (l_toMarketO H12.out (by omega) HBB.out).mono ?_
    rintro e w14 ⟨b4, rfl, hrow, hx⟩
    replace e0 := hx.cellSome e0
    replace e1 := hx.cellSome e1
    replace g0 := hx.cellSome g0
    replace g1 := hx.cellSome g1
    have X314 := Lib.hid (X313.out.trans hx)
    have O8 := Lib.hid (O7.out.ext hx)
    have R7 := Lib.hid (hrow.intss)
    clear hx hrow c0 c1 c2
    go_wp2_with fail
    refine (i_AssignmentGame (x := x) (y := y) R7.out).mono ?_
    rintro e w15 ⟨⟨v2, rfl, ho⟩, hx⟩
    obtain ⟨a2, n2, p2, rfl, N2⟩ := ho.var
    replace e0 := hx.cellSome e0
    replace e1 := hx.cellSome e1
    replace g0 := hx.cellSome g0
    replace g1 := hx.cellSome g1
    have hlt315 : w3.heap.size < w15.heap.size := World.block_lt_of_cell? _ _ e0
    have hlt515 : w5.heap.size < w15.heap.size := World.block_lt_of_cell? _ _ g0
    have hxb := Ext.alloc w15 (.cells #[.int .i64 (asgP x y l : Int), .slice a2 n2 p2] 64)
    have X315 := Lib.hid ((X314.out.trans hx).trans hxb)
    have O9 := Lib.hid ((O8.out.ext hx).ext hxb)
    have O10 := Lib.hid (ho.ext hxb)
    have Hg0 := Lib.hid (hxb.cellSome g0)
    have Hg1 := Lib.hid (hxb.cellSome g1)
    clear ho hx hxb
    have HE := Lib.hid (l_eqGame (x := (asgP x y l : Int)) (x' := (asgP x y l : Int)) O10.out.ints (O0.out.ext X315.out).ints)
    rw [eqP'] at HE
    go_wp2_with fail
    refine HE.out.mono ?_
    rintro e w16 ⟨rfl, hx⟩
    have g0 := hx.cellSome Hg0.out
    have g1 := hx.cellSome Hg1.out
    have X316 := Lib.hid (X315.out.trans hx)
    have O11 := Lib.hid (O9.out.ext hx)
    clear hx
    go_wp2_with fail
    refine (l_heldGame (x := (asgP x y l : Int)) 1 O11.out.ints (by omega) (by omega)).mono ?_
    rintro e w17 ⟨rfl, hx⟩
    have X317 := Lib.hid (X316.out.trans hx)
    clear hx
    go_wp2
    go_ret
    exact ⟨rfl, HX3.out.trans X317.out⟩

end Go.Proofs.Ytokpmflhgehicaa
