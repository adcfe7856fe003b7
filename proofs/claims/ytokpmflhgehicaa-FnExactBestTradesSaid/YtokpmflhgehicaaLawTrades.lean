/- FnExactBestTrades answers true, whatever the arguments: the walk. -/
import Derived.Test.YtokpmflhgehicaaMarkM
import Derived.Test.YtokpmflhgehicaaTradesB
namespace Go.Proofs.Ytokpmflhgehicaa
set_option linter.unusedVariables false
open Go.RowKit

theorem cnt_small : ∀ L : List (List Int), (∀ l ∈ L, l.length ≤ 1048576) → cnt L ≤ 1048576 * L.length
  | [], _ => by simp [cnt]
  | l :: L, h => by
    have h1 := cnt_small L (fun m hm => h m (by simp [hm]))
    have h2 := h l (by simp)
    have h3 : cnt (l :: L) = (l.length : Int) + cnt L := by simp [cnt]
    rw [h3, List.length_cons]
    omega

set_option maxHeartbeats 4000000 in
theorem l_FnExactBestTrades {w : World} {x y k : Int} {a : Option Addr} {n cap : Nat} {l : List (List Int)} (h : IntSS w a n cap l) :
    Calls Try.prog 5 #[triple x y a n cap, .int .i64 k] w fun e w' => e = .returned (.bool true) ∧ Ext w w' := by
  have hm : n ≤ 9223372036854775807 := Nat.le_trans h.hcap h.hmax
  have HL := Lib.hid h.hlen
  have h1 := h.alloc (.cells #[.int .i64 x, .int .i64 y, .slice a n cap] 49)
  have HX := Lib.hid (Ext.alloc w (.cells #[.int .i64 x, .int .i64 y, .slice a n cap] 49))
  by_cases hlt : szSS 1048576 l < 0
  · go_enter Try.func5, Try.ntmps5
    go_wp2_with fail
    refine (l_szMarket _ _ _ h1 (by omega) (by omega)).mono ?_
    rintro e w1 ⟨rfl, hx⟩
    have HX1 := Lib.hid (HX.out.trans hx)
    clear hx
    go_wp2
    go_ret
    exact ⟨rfl, HX1.out⟩
  · have hsz := szSS_le (L := l) (by omega)
    have hb : n ≤ 1048576 := by have := HL.out; omega
    have HBB := Lib.hid (show ∀ r ∈ l, r.length ≤ 1099511627776 from fun r hr => by have := hsz.2 r hr; omega)
    have hcnt := cnt_small l hsz.2
    have hcnt0 := cnt_nonneg l
    obtain ⟨z, hz⟩ : ∃ z, z = cnt l := ⟨_, rfl⟩
    rw [← hz] at hcnt hcnt0
    have hz1 : z ≤ 1099511627776 := by have := hsz.1; omega
    have HZ := Lib.hid hz
    have hlen := tradeR_len x y l k
    clear hsz hcnt hz
    go_enter Try.func5, Try.ntmps5
    go_wp2_with fail
    refine (l_szMarket _ _ _ h1 (by omega) (by omega)).mono ?_
    rintro e w1 ⟨rfl, hx⟩
    have c0 : w1.cell? ⟨w.heap.size, 0, none⟩ = some (.int .i64 x) := hx.cellSome (by simp)
    have c1 : w1.cell? ⟨w.heap.size, 1, none⟩ = some (.int .i64 y) := hx.cellSome (by simp)
    have c2 : w1.cell? ⟨w.heap.size, 2, none⟩ = some (.slice a n cap) := hx.cellSome (by simp)
    have HX1 := Lib.hid (HX.out.trans hx)
    have h2 := h1.ext hx
    clear hx h1 h
    -- the reference's answer
    go_wp2_with fail
    refine (l_toMarketO h2 (by omega) HBB.out).mono ?_
    rintro e w2 ⟨b, rfl, hrow, hx⟩
    have X12 := Lib.hid hx
    clear hx
    go_wp2_with fail
    refine (s_BestTrades (x := x) (y := y) (s := k) (hrow.intss)).mono ?_
    rintro e w3 ⟨⟨v0, rfl, ho⟩, hx⟩
    obtain ⟨a0, n0, p0, rfl, N0⟩ := ho.var
    have X13 := Lib.hid (X12.out.trans hx)
    have O0 := Lib.hid ho
    have c0' := X13.out.cellSome c0
    have c1' := X13.out.cellSome c1
    have c2' := X13.out.cellSome c2
    have c0'' := Lib.hid c0'
    have c1'' := Lib.hid c1'
    have c2'' := Lib.hid c2'
    have HX3 := Lib.hid (HX1.out.trans X13.out)
    have H3 := Lib.hid (h2.ext X13.out)
    clear hx ho hrow c0 c1 c2 h2
    -- the program's answer
    go_wp2_with fail
    refine (l_toMarketO H3.out (by omega) HBB.out).mono ?_
    rintro e w4 ⟨b2, rfl, hrow, hx⟩
    have c0 := hx.cellSome c0'
    have c1 := hx.cellSome c1'
    have c2 := hx.cellSome c2'
    have X34 := Lib.hid hx
    have hlt4 : w.heap.size < w4.heap.size := World.block_lt_of_cell? _ _ c0
    have hlt3 : w.heap.size < w3.heap.size := World.block_lt_of_cell? _ _ c0'
    have R2 := Lib.hid (hrow.top.ext (Ext.alloc _ (.cells #[.int .i64 x, .int .i64 y, .slice (some ⟨b2, 0, none⟩) n n] 53)))
    have HI := Lib.hid (i_BestTrades (x := x) (y := y) (s := k) R2.out.own.intss)
    clear hx hrow c0' c1' c2'
    go_wp2_with fail
    refine HI.out.mono ?_
    rintro e w5 ⟨⟨v1, rfl, ho⟩, hx⟩
    obtain ⟨a1, n1, p1, rfl, N1⟩ := ho.var
    have c0' : w5.cell? ⟨w.heap.size, 0, none⟩ = some (.int .i64 x) := hx.cellSome ((Ext.alloc _ _).cellSome c0)
    have c1' : w5.cell? ⟨w.heap.size, 1, none⟩ = some (.int .i64 y) := hx.cellSome ((Ext.alloc _ _).cellSome c1)
    have c2' : w5.cell? ⟨w.heap.size, 2, none⟩ = some (.slice a n cap) := hx.cellSome ((Ext.alloc _ _).cellSome c2)
    have d0 : w5.cell? ⟨w4.heap.size, 0, none⟩ = some (.int .i64 x) := hx.cellSome (by simp)
    have d1 : w5.cell? ⟨w4.heap.size, 1, none⟩ = some (.int .i64 y) := hx.cellSome (by simp)
    have d2 : w5.cell? ⟨w4.heap.size, 2, none⟩ = some (.slice (some ⟨b2, 0, none⟩) n n) := hx.cellSome (by simp)
    have X35 := Lib.hid ((X34.out.trans (Ext.alloc _ _)).trans hx)
    have R3 := Lib.hid (R2.out.ext hx)
    have O1 := Lib.hid ho
    clear ho hx c0 c1 c2
    -- they are equal
    have HE := Lib.hid (l_eqIntS O1.out.ints (O0.out.ext X35.out).ints)
    rw [decide_eq_true rfl] at HE
    go_wp2_with fail
    refine HE.out.mono ?_
    rintro e w6 ⟨rfl, hx⟩
    have c0 := hx.ext.cellSome c0'
    have c1 := hx.ext.cellSome c1'
    have c2 := hx.ext.cellSome c2'
    have d0' := hx.ext.cellSome d0
    have d1' := hx.ext.cellSome d1
    have d2' := hx.ext.cellSome d2
    have X36 := Lib.hid (X35.out.trans hx.ext)
    have R4 := Lib.hid (R3.out.ext hx.ext)
    have O2 := Lib.hid (O1.out.ext hx.ext)
    clear hx c0' c1' c2' d0 d1 d2
    -- the argument is as before
    go_wp2_with fail
    have hk : Ext w6 w6.drew := Ext.drew w6
    have H6 := Lib.hid ((H3.out.ext X36.out).ext hk)
    have R5 := Lib.hid (R4.out.ext hk)
    go_region_held3 (fun w' => w'.cell? ⟨w.heap.size, 0, none⟩ = some (.int .i64 x) ∧ w'.cell? ⟨w.heap.size, 1, none⟩ = some (.int .i64 y) ∧ w'.cell? ⟨w.heap.size, 2, none⟩ = some (.slice a n cap) ∧ w'.cell? ⟨w4.heap.size, 0, none⟩ = some (.int .i64 x) ∧ w'.cell? ⟨w4.heap.size, 1, none⟩ = some (.int .i64 y) ∧ w'.cell? ⟨w4.heap.size, 2, none⟩ = some (.slice (some ⟨b2, 0, none⟩) n n) ∧ Ext w6 w')
      (exact ⟨hk.cellSome c0, hk.cellSome c1, hk.cellSome c2, hk.cellSome d0', hk.cellSome d1', hk.cellSome d2', hk⟩)
      (first
        | (go_at_call 30; refine (l_toMarketO H6.out (by omega) HBB.out).mono ?_; rintro e w7 ⟨b3, rfl, hrow, hx6⟩; have hk := hk.trans hx6)
        | (go_at_call 33; refine (l_eqMarket (R5.out.ext hx6).own.intss hrow.intss).mono ?_; rintro e w8 ⟨rfl, hx7⟩; have hk := hk.trans hx7))
    have c0 := hk.cellSome c0
    have c1 := hk.cellSome c1
    have c2 := hk.cellSome c2
    have d0 := hk.cellSome d0'
    have d1 := hk.cellSome d1'
    have d2 := hk.cellSome d2'
    have X37 := Lib.hid (X36.out.trans hk)
    have R6 := Lib.hid (R4.out.ext hk)
    have O3 := Lib.hid (O2.out.ext hk)
    clear hk d0' d1' d2' H6 R5
    -- the argument is marked
    go_wp2_with fail
    refine (l_markMarket (x := x) (y := y) R6.out X37.out.size 1 (by omega) (by rw [← HZ.out]; omega)).mono ?_
    rw [← HZ.out]
    rintro e w10 ⟨rfl, hbl, hf⟩
    have X310 := Lib.hid (show Ext w3 w10 from Below.trans X37.out hbl)
    have O4 := Lib.hid (O3.out.keep fun k hk => hf k (by have h1 := (O3.out.lt k hk).1; simp at h1; omega) (O3.out.lt k hk).2)
    have c0 := X310.out.cellSome c0''.out
    have c1 := X310.out.cellSome c1''.out
    have c2 := X310.out.cellSome c2''.out
    clear hbl hf d0 d1 d2
    have HE := Lib.hid (l_eqIntS O4.out.ints (O0.out.ext X310.out).ints)
    rw [decide_eq_true rfl] at HE
    have hn1 : n1 ≤ 1048576 := by have := N1.out; omega
    have hneg : ¬ (1 + z < 0) := by omega
    go_wp2_with fail
    refine HE.out.mono ?_
    rintro e w11 ⟨rfl, hx⟩
    have c0' := hx.ext.cellSome c0
    have c1' := hx.ext.cellSome c1
    have c2' := hx.ext.cellSome c2
    have X311 := Lib.hid (X310.out.trans hx.ext)
    have O5 := Lib.hid (O4.out.ext hx.ext)
    clear hx c0 c1 c2
    -- the answer is marked
    go_wp2_with fail
    refine (l_markIntS O5.out 1 (by omega) (by omega)).mono ?_
    rintro e w12 ⟨rfl, ho, hg, _⟩
    have X312 := Lib.hid (ext_grown X311.out hg fun k hk => by have h1 := (O5.out.lt k hk).1; have h2 := X34.out.size; simp at h1; omega)
    have O6 := Lib.hid ho
    have c0 := X312.out.cellSome c0''.out
    have c1 := X312.out.cellSome c1''.out
    have c2 := X312.out.cellSome c2''.out
    clear ho hg c0' c1' c2'
    have hneg1 : ¬ (1 + (n1 : Int) < 0) := by omega
    have hne : ((1 + (n1 : Int)) != (1 + (n1 : Int))) = false := by simp
    go_wp2_with fail
    refine (l_heldIntS 1 O6.out.ints (by omega) (by omega)).mono ?_
    rintro e w13 ⟨rfl, rfl⟩
    -- once more
    have H12 := Lib.hid (H3.out.ext X312.out)
    go_wp2_with fail
    refine (l_toMarketO H12.out (by omega) HBB.out).mono ?_
    rintro e w14 ⟨b4, rfl, hrow, hx⟩
    have X314 := Lib.hid (X312.out.trans hx)
    have O7 := Lib.hid (O6.out.ext hx)
    have R7 := Lib.hid (hrow.intss)
    clear hx hrow
    go_wp2_with fail
    refine (i_BestTrades (x := x) (y := y) (s := k) R7.out).mono ?_
    rintro e w15 ⟨⟨v2, rfl, ho⟩, hx⟩
    obtain ⟨a2, n2, p2, rfl, N2⟩ := ho.var
    have X315 := Lib.hid (X314.out.trans hx)
    have O8 := Lib.hid (O7.out.ext hx)
    have O9 := Lib.hid ho
    clear ho hx
    have HE := Lib.hid (l_eqIntS O9.out.ints (O0.out.ext X315.out).ints)
    rw [decide_eq_true rfl] at HE
    go_wp2_with fail
    refine HE.out.mono ?_
    rintro e w16 ⟨rfl, hx⟩
    have X316 := Lib.hid (X315.out.trans hx.ext)
    have O10 := Lib.hid (O8.out.ext hx.ext)
    clear hx
    go_wp2_with fail
    refine (l_heldIntS 1 O10.out.ints (by omega) (by omega)).mono ?_
    rintro e w17 ⟨rfl, rfl⟩
    go_wp2
    go_ret
    exact ⟨rfl, HX3.out.trans X316.out⟩

end Go.Proofs.Ytokpmflhgehicaa
