import Derived.Test.YtgohdmnbnhehnaaCvAllG7
import Derived.Test.YtgohdmnbnhehnaaCvAllG8
import Derived.Test.YtgohdmnbnhehnaaCvAllG3
import Derived.Deep.DeepCutAuto
import Derived.Test.YtgohdmnbnhehnaaCvAllG5
import Derived.Test.YtgohdmnbnhehnaaCvAllG2
import Derived.Test.YtgohdmnbnhehnaaCvAllG0
namespace Go.Proofs.Ytgohdmnbnhehnaa
set_option linter.unusedVariables false
set_option linter.unusedSimpArgs false
set_option maxRecDepth 100000
open Go.RowKit
theorem On.calls {base cb : Nat} {wr w' : World} {P : World → Prop} (h : On base wr P) (hg : wr.grownBy w' (some cb)) (hb : cb < base) : On base w' P := h.keep hg.size fun k h1 h2 => grown_block hg h2 (by omega)
theorem ordersOf_len {x : Int} {k : Nat} (hk : k < (ordersOf x).length) : 1 ≤ ((ordersOf x)[k]?.getD []).length ∧ ((ordersOf x)[k]?.getD []).length ≤ 5 := by
  by_cases h : 1 ≤ x ∧ x ≤ 5
  · obtain ⟨q, rfl⟩ : ∃ q : Nat, x = q := ⟨x.toNat, by omega⟩
    have := (ordersOf_ord q (by omega) (by omega) k hk).1
    omega
  · exfalso
    unfold ordersOf at hk
    rw [if_neg h] at hk
    simp at hk
set_option maxHeartbeats 4000000 in
theorem s_DrawMarginalVector {w : World} {a : Option Addr} {n cap : Nat} (h : Bytes w a n cap) (hn : n ≤ 1048576) :
    Calls Try.prog 27 #[.slice a n cap] w fun e w' => (∃ (x : Int) (b b' : Option Addr) (m c m' c' : Nat) (V O : List Int), e = .returned (.tuple #[.agg #[.int .i64 x, .slice b m c], .slice b' m' c']) ∧ Ints w' b m c V ∧ Ints w' b' m' c' O ∧ m ≤ 33) ∧ Ext w w' := by
  obtain ⟨W, hW⟩ : ∃ W, W = w.alloc (.cells #[.int .i64 0, .slice none 0 0] 26) := ⟨_, rfl⟩
  have HWS := Lib.hid (show W.heap.size = w.heap.size + 1 by rw [hW]; simp)
  have hX : Ext w W := by rw [hW]; exact Ext.alloc _ _
  have HR2 := Lib.hid (show W.heap[w.heap.size]? = some (.cells #[.int .i64 0, .slice none 0 0] 26 (0, 0)) by rw [hW]; exact heapA_new _ _ _ rfl)
  have HX := Lib.hid hX
  have HN := Lib.hid (s_l1New (h.ext hX) hn)
  clear h hX
  go_enter Try.func27, Try.ntmps27
  go_wp2_with fail
  rw [← hW]
  refine HN.out.mono ?_
  rintro e w1 ⟨⟨cb, rfl, hcb, hc⟩, hx⟩
  have hws := HWS.out
  have hs1 := hx.size
  have hcl := hc.lt
  have HB1 := Lib.hid ((Bxs.start hc (grown_ext (some cb) (HX.out.trans hx))).add w.heap.size _ _ ((hx.block _ (by omega)).trans HR2.out) (by omega) (by omega) (pair_dry _ _ (slice_dry _ _ _)))
  clear hc hx HWS HR2 hW
  go_wp2_with fail
  refine (s_l8Bent HB1.out.cur).mono ?_
  rintro e w2 ⟨⟨x, b, m, c, V, rfl, ho, hm⟩, hc, hg⟩
  have hs2 := hg.size
  have HB2 := Lib.hid (show Bxs w (w2.alloc (.cells #[.int .i64 x, .slice b m c] 26)) cb (mateBx w.heap.size w2.heap.size x b m c) from (HB1.out.call hc hg).new _ _ (pair_dry _ _ (slice_dry _ _ _)))
  have HO2 := Lib.hid (ho.ext (Ext.alloc w2 (.cells #[.int .i64 x, .slice b m c] 26)))
  have hm1 := ho.ints.hcap
  have hm2 := ho.ints.hmax
  have e0 := HB2.out.c0 (mateBx5 _ _ _ _ _ _)
  have e1 := HB2.out.c1 (mateBx5 _ _ _ _ _ _)
  clear hc hg ho HB1
  go_wp2_with fail
  refine (s_AllOrders x _).mono ?_
  rintro e w3 ⟨v, rfl, ho, hx⟩
  obtain ⟨a3, n3, p3, rfl, HN3⟩ := ho.var
  have HB3 := Lib.hid (HB2.out.ext hx)
  have HO3 := Lib.hid (HO2.out.ext hx)
  have HS3 := Lib.hid ho.on
  have hs3 := hx.size
  rw [World.size_alloc] at hs3
  have hq1 := ho.intss.hcap
  have hq2 := ho.intss.hmax
  rw [World.size_alloc] at HS3
  generalize w2.heap.size = b5 at HB3 hs2 hs3 HS3 ⊢
  clear hx HB2 HO2 ho e0 e1
  have hn25 : w.heap.size ≠ b5 := by omega
  have f0 := HB3.out.c0 (mateBx5 _ _ _ _ _ _)
  have f1 := HB3.out.c1 (mateBx5 _ _ _ _ _ _)
  by_cases hz : n3 = 0
  · subst hz
    obtain ⟨W3, hW3⟩ : ∃ E, E = w3.alloc (.cells #[.int .i64 0] 3) := ⟨_, rfl⟩
    have hx3 : Ext w3 W3 := by rw [hW3]; exact Ext.alloc _ _
    have HB4 := Lib.hid (HB3.out.ext hx3)
    have HL := Lib.hid (show OwnI W3 w3.heap.size (.slice (some ⟨w3.heap.size, 0, none⟩) 1 1) [0] by
      rw [hW3]
      exact Row.own (show Row (w3.alloc (.cells (intCells [0]) 3)) w3.heap.size 3 [0] from heap_alloc_new _ _) (Nat.le_refl _) rfl (by decide))
    have g0 := HB4.out.c0 (mateBx5 _ _ _ _ _ _)
    have g1 := HB4.out.c1 (mateBx5 _ _ _ _ _ _)
    have r0 := HB4.out.c0 (mateBx4 hn25 x b m c)
    have r1 := HB4.out.c1 (mateBx4 hn25 x b m c)
    have rf := HB4.out.free (mateBx4 hn25 x b m c)
    have HB5 := Lib.hid (HB4.out.put2 (mateBx4 hn25 _ _ _ _) (.int .i64 x) (.slice b m c) (i64_dry _) (slice_dry _ _ _))
    have HW5 := Lib.hid ((HO3.out.ext hx3).put2 (show w.heap.size < w1.heap.size by omega) (.int .i64 x) (.slice b m c))
    have HW5' := Lib.hid (HL.out.put2 (show w.heap.size < w3.heap.size by omega) (.int .i64 x) (.slice b m c))
    have z0 := HB5.out.c0 (Bx.same _ _ _)
    have z1 := HB5.out.c1 (Bx.same _ _ _)
    have HX5 := Lib.hid (HB5.out.all (by omega))
    clear hx3
    subst hW3
    go_wp2_with fail
    refine bodyPost_ret (v := .tuple #[.agg #[.int .i64 x, .slice b m c], .slice (some ⟨w3.heap.size, 0, none⟩) 1 1]) (by simp [results, Try.results27, go_sem, z0, z1]) rfl ⟨⟨x, b, _, m, c, _, _, V, _, rfl, HW5.out.ints, HW5'.out.ints, hm⟩, HX5.out⟩
  · have hlen1 : ¬ (n3 : Int) = 0 := by omega
    have HBA := Lib.hid (HB3.out.ext (Ext.alloc w3 (.cells #[] 3)))
    have HOA := Lib.hid (HO3.out.ext (Ext.alloc w3 (.cells #[] 3)))
    have HSA := Lib.hid (HS3.out.ext (Ext.alloc w3 (.cells #[] 3)))
    have HRA := Lib.hid (show Row (w3.alloc (.cells #[] 3)) w3.heap.size 3 [] from heap_alloc_new _ _)
    have HO3L := Lib.hid (fun k hk => (HO3.out.lt k hk).2)
    go_wp2_with fail
    refine (s_l1Below HBA.out.cur (n3 : Int) (by omega)).mono ?_
    rintro e w4 ⟨⟨kk, rfl, hk0, hk1⟩, hc, hg⟩
    obtain ⟨k, rfl⟩ : ∃ q : Nat, kk = q := ⟨kk.toNat, by omega⟩
    have hk : k < n3 := by omega
    have HB4 := Lib.hid (HBA.out.call hc hg)
    have HO4 := Lib.hid (HOA.out.calls hg hcl)
    have hs4 := hg.size
    rw [World.size_alloc] at hs4
    have HR4 := Lib.hid (show Row w4 w3.heap.size 3 [] from (grown_block hg (by simp) (by omega)).trans HRA.out)
    obtain ⟨lb, lo, ra, rn, rc, rfl, hcell, hrow⟩ := (HSA.out.calls hg (show cb < b5 + 1 by omega)).here.intss.at hk
    obtain ⟨ROW, hROW⟩ : ∃ R, R = (ordersOf x)[k]?.getD [] := ⟨_, rfl⟩
    have hlen := ordersOf_len (x := x) (k := k) (by rw [HN3.out]; exact hk)
    rw [← hROW] at hrow hlen
    have hrl := hrow.hlen
    have HROW := Lib.hid hrow
    have HE4 := Lib.hid (Row.own HR4.out (Nat.le_refl _) rfl (by decide))
    clear hc hg hrow hROW
    go_wp2_with (first
      | (at_builtin; refine append_ints rfl _ _ rfl w3.heap.size (.slice (some ⟨w3.heap.size, 0, none⟩) 0 0) [] rfl HE4.out _ rn _ ROW rfl HROW.out (by simp; omega) (by omega) ?_; intro v5 w5 ho hg hnear; obtain ⟨a5, n5, p5, rfl, HN5⟩ := ho.var; have HB5 := Lib.hid (HB4.out.grownR HR4.out (by omega) (by omega) (mateBx0 (by omega) (by omega) _ _ _ _) hg); have HO5 := Lib.hid (HO4.out.keep (w' := w5) fun j hj => hg.block j (HO4.out.lt j hj).2 (fun e => by have := HO3L.out j hj; simp only [Value.ownBlock, Option.some.injEq] at e; omega)); have HL5 := Lib.hid ho; have hs5 := hg.size; clear ho hg hnear))
    have hn5 : 1 ≤ n5 := by have := HN5.out; simp only [List.nil_append] at this; omega
    refine (s_l1Once HB5.out.cur 8 (by omega)).mono ?_
    rintro e w6 ⟨⟨once, rfl⟩, hc, hg⟩
    have HB6 := Lib.hid (HB5.out.call hc hg)
    have HO6 := Lib.hid (HO5.out.calls hg hcl)
    have HL6 := Lib.hid (HL5.out.calls hg (show cb < w3.heap.size by omega))
    have hs6 := hg.size
    clear hc hg
    cases once
    · have g0 := HB6.out.c0 (mateBx5 _ _ _ _ _ _)
      have g1 := HB6.out.c1 (mateBx5 _ _ _ _ _ _)
      have r0 := HB6.out.c0 (mateBx4 hn25 x b m c)
      have r1 := HB6.out.c1 (mateBx4 hn25 x b m c)
      have rf := HB6.out.free (mateBx4 hn25 x b m c)
      have HB9 := Lib.hid (HB6.out.put2 (mateBx4 hn25 _ _ _ _) (.int .i64 x) (.slice b m c) (i64_dry _) (slice_dry _ _ _))
      have HW9 := Lib.hid (HO6.out.put2 (show w.heap.size < w1.heap.size by omega) (.int .i64 x) (.slice b m c))
      have HW9' := Lib.hid (HL6.out.put2 (show w.heap.size < w3.heap.size by omega) (.int .i64 x) (.slice b m c))
      have z0 := HB9.out.c0 (Bx.same _ _ _)
      have z1 := HB9.out.c1 (Bx.same _ _ _)
      have HX9 := Lib.hid (HB9.out.all (by omega))
      go_wp2_with fail
      refine bodyPost_ret (v := .tuple #[.agg #[.int .i64 x, .slice b m c], .slice a5 n5 p5]) (by simp [results, Try.results27, go_sem, z0, z1]) rfl ⟨⟨x, b, _, m, c, _, _, V, _, rfl, HW9.out.ints, HW9'.out.ints, hm⟩, HX9.out⟩
    · go_wp2_with fail
      refine (s_l1Below HB6.out.cur 4 (by omega)).mono ?_
      rintro e w7 ⟨⟨z, rfl, hz0, hz1⟩, hc, hg⟩
      have HB7 := Lib.hid (HB6.out.call hc hg)
      have HO7 := Lib.hid (HO6.out.calls hg hcl)
      have HL7 := Lib.hid (HL6.out.calls hg (show cb < w3.heap.size by omega))
      clear hc hg
      obtain ⟨g, rfl, hgb, hgf, hgl⟩ := HL7.out.block (k := 0) (by omega)
      obtain ⟨q1, q2, hq, hcv⟩ := HL7.out.ints.at (k := 0) (by omega)
      simp only [Option.some.injEq, Addr.mk.injEq, and_true] at hq
      obtain ⟨rfl, rfl⟩ := hq
      rw [Nat.zero_add] at hcv
      have HB8 := Lib.hid (HB7.out.putr (b := g) (k := 0) (by omega) (by omega) (mateBx0 (by omega) (by omega) _ _ _ _) hcv (i64_dry _) (.int .i64 (z - 1)))
      have HO8 := Lib.hid (HO7.out.keep (w' := w7.setCell ⟨g, 0, none⟩ (.int .i64 (z - 1))) fun j hj => heap_setCell_other _ _ _ _ (by have := HO3L.out j hj; show j ≠ g; omega))
      have HL8 := Lib.hid (HL7.out.set 0 (z - 1))
      have g0 := HB8.out.c0 (mateBx5 _ _ _ _ _ _)
      have g1 := HB8.out.c1 (mateBx5 _ _ _ _ _ _)
      have r0 := HB8.out.c0 (mateBx4 hn25 x b m c)
      have r1 := HB8.out.c1 (mateBx4 hn25 x b m c)
      have rf := HB8.out.free (mateBx4 hn25 x b m c)
      have HB9 := Lib.hid (HB8.out.put2 (mateBx4 hn25 _ _ _ _) (.int .i64 x) (.slice b m c) (i64_dry _) (slice_dry _ _ _))
      have HW9 := Lib.hid (HO8.out.put2 (show w.heap.size < w1.heap.size by omega) (.int .i64 x) (.slice b m c))
      have HW9' := Lib.hid (HL8.out.put2 (show w.heap.size < w3.heap.size by omega) (.int .i64 x) (.slice b m c))
      have z0 := HB9.out.c0 (Bx.same _ _ _)
      have z1 := HB9.out.c1 (Bx.same _ _ _)
      have HX9 := Lib.hid (HB9.out.all (by omega))
      go_wp2_with fail
      refine bodyPost_ret (v := .tuple #[.agg #[.int .i64 x, .slice b m c], .slice (some ⟨g, 0, none⟩) n5 p5]) (by simp [results, Try.results27, go_sem, z0, z1]) rfl ⟨⟨x, b, _, m, c, _, _, V, _, rfl, HW9.out.ints, HW9'.out.ints, hm⟩, HX9.out⟩
end Go.Proofs.Ytgohdmnbnhehnaa
namespace Go.Proofs.Ytgohdmnbnhehnaa
set_option linter.unusedVariables false
set_option linter.unusedSimpArgs false
set_option maxRecDepth 100000
open Go.RowKit
def factN : Nat → Int
  | 0 => 1
  | k + 1 => ((k : Int) + 1) * factN k
def factI (n : Int) : Int := factN n.toNat
theorem factN_bd (m : Nat) (h : m ≤ 5) : 1 ≤ factN m ∧ factN m ≤ 120 := by
  have : m = 0 ∨ m = 1 ∨ m = 2 ∨ m = 3 ∨ m = 4 ∨ m = 5 := by omega
  rcases this with rfl | rfl | rfl | rfl | rfl | rfl <;> decide
def shW (n i : Nat) : Int := factN i * factN (n - 1 - i)
theorem shW_bd (n i : Nat) (hn : n ≤ 5) (hi : i ≤ 5) : 0 ≤ shW n i ∧ shW n i ≤ 1000 := by
  have h1 : ∀ n : Fin 6, ∀ i : Fin 6, 0 ≤ shW n.val i.val ∧ shW n.val i.val ≤ 1000 := by decide +kernel
  exact h1 ⟨n, by omega⟩ ⟨i, by omega⟩
def shV (n i : Nat) : Int := if i ≤ 5 then shW n i else 0
theorem shV_bd (n : Nat) (hn : n ≤ 5) (i : Nat) : -1000 ≤ shV n i ∧ shV n i ≤ 1000 := by
  unfold shV; split
  · have := shW_bd n i hn (by assumption); omega
  · omega
def shapT (p : Int) (V : List Int) (k : Nat) : List (Int × Int) := if gameOk p V = true then avgT (shV p.toNat) V (factI p) k else []
def shapL (p : Int) (V : List Int) : List (Int × Int) := shapT p V p.toNat
theorem shapT_not {p : Int} {V : List Int} (k : Nat) (h : gameOk p V = false) : shapT p V k = [] := by simp [shapT, h]
theorem shapT_ok {p : Int} {V : List Int} (k : Nat) (h : gameOk p V = true) : shapT p V k = avgT (shV p.toNat) V (factI p) k := by simp [shapT, h]
theorem fact_end {n : Int} {j : Nat} (h1 : j = 0 ∨ (j : Int) + 1 ≤ n) (h2 : ¬ (j : Int) + 2 ≤ n) : factN (j + 1) = factI n := by
  unfold factI
  rcases h1 with rfl | h1
  · have : n.toNat = 0 ∨ n.toNat = 1 := by omega
    rcases this with h | h <;> rw [h] <;> decide
  · rw [show n.toNat = j + 1 by omega]
set_option maxHeartbeats 400000 in
theorem i_factorial (n : Int) (hn : n ≤ 5) (w : World) : Calls Try.prog 62 #[.int .i64 n] w fun e w' => e = .returned (.int .i64 (factI n)) ∧ w = w' := by
  go_enter Try.func62, Try.ntmps62
  go_wp2
  go_loop [3, 4] (fun o i => ∃ j : Nat, Hid (j = 0 ∨ (j : Int) + 1 ≤ n) ∧ i = .int .i64 ((j : Int) + 2) ∧ o = .int .i64 (factN (j + 1))) (fun _ i => (8 - intOf i).toNat)
  case atStart => exact ⟨0, Lib.hid (.inl rfl), by simp, by rfl⟩
  case round =>
    obtain ⟨j, HJ, rfl, hT⟩ := hrel
    obtain ⟨T, hT'⟩ : ∃ T, T = factN (j + 1) := ⟨_, rfl⟩
    rw [← hT'] at hT
    subst hT
    have HT := Lib.hid hT'
    clear hT'
    have hj5 : j ≤ 4 := by have := HJ.out; omega
    by_cases hlt : (j : Int) + 2 ≤ n
    · have hmul : IntKind.i64.wrap (T * ((j : Int) + 2)) = factN (j + 2) := by
        have h1 : T * ((j : Int) + 2) = factN (j + 2) := by rw [HT.out]; show _ = (((j + 1 : Nat) : Int) + 1) * factN (j + 1); rw [Int.mul_comm]; congr 1
        have h2 := factN_bd (j + 2) (by omega)
        rw [h1, IntKind.wrap_i64]; omega
      go_wp2
      go_round
      case rel => exact ⟨j + 1, Lib.hid (.inr (by omega)), by go_num, by rfl⟩
      case measure => simp [intOf]; omega
    · have HE := Lib.hid (fact_end HJ.out hlt)
      go_wp2
      go_ret
      exact ⟨ret_int (by rw [HT.out, HE.out]), rfl⟩
set_option maxHeartbeats 400000 in
theorem i_ShapleyValue1 {w : World} (s n : Nat) (hs : s ≤ 5) (h1 : 1 ≤ n) (h5 : n ≤ 5) {b : Nat} (hc : w.cell? ⟨b, 0, none⟩ = some (.int .i64 (n : Int))) : Calls Try.prog 61 #[.int .i64 (s : Int), .pointer (some ⟨b, 0, none⟩)] w fun e w' => e = .returned (.int .i64 (shV n s)) ∧ Ext w w' := by
  have HV := Lib.hid (show factI (s : Int) * factI ((n : Int) - 1 - (s : Int)) = shV n s by
    unfold shV shW factI
    rw [if_pos hs, show ((n : Int) - 1 - (s : Int)).toNat = n - 1 - s by omega]; rfl)
  have hb1 := factN_bd s hs
  have hb2 := factN_bd (n - 1 - s) (by omega)
  have hA1 : 1 ≤ factI (s : Int) ∧ factI (s : Int) ≤ 120 := by unfold factI; rw [Int.toNat_natCast]; exact hb1
  have hB1 : 1 ≤ factI ((n : Int) - 1 - (s : Int)) ∧ factI ((n : Int) - 1 - (s : Int)) ≤ 120 := by unfold factI; rw [show ((n : Int) - 1 - (s : Int)).toNat = n - 1 - s by omega]; exact hb2
  have hm := wt_bd (x := factI (s : Int)) (y := factI ((n : Int) - 1 - (s : Int))) (by omega) (by omega) (by omega) (by omega)
  have e1 : IntKind.i64.wrap (factI (s : Int) * factI ((n : Int) - 1 - (s : Int))) = shV n s := by rw [← HV.out, IntKind.wrap_i64]; omega
  have e2 : IntKind.i64.wrap ((n : Int) - 1) = (n : Int) - 1 := by rw [IntKind.wrap_i64]; omega
  have e3 : IntKind.i64.wrap ((n : Int) - 1 - (s : Int)) = (n : Int) - 1 - (s : Int) := by rw [IntKind.wrap_i64]; omega
  clear hA1 hB1 hb1 hb2 hm
  go_enter Try.func61, Try.ntmps61
  go_wp2
  go_quiet ((first | (go_at_call 62; exact quiet_same (i_factorial _ (by omega) _))))
  go_wp2
  go_ret
  exact ⟨rfl, Drew.ext ⟨_, rfl⟩⟩
theorem go_ShapleyValue1 : IsGo Try.prog 61 := isGo Try.func61 (by kernel_rfl) (by kernel_rfl)
set_option maxHeartbeats 2000000 in
theorem i_ShapleyValue {w : World} {x : Int} {a : Option Addr} {m cap : Nat} {V : List Int} (h : Ints w a m cap V) :
    Calls Try.prog 11 #[pair x a m cap] w fun e w' => (∃ v, e = .returned (.tuple #[v, .bool (gameOk x V)]) ∧ OwnR w' w.heap.size v (shapL x V)) ∧ Ext w w' := by
  have hi := h.alloc (.cells #[.int .i64 x, .slice a m cap] 26)
  have HX := Lib.hid (Ext.alloc w (.cells #[.int .i64 x, .slice a m cap] 26))
  have HL := Lib.hid h.hlen
  have HI := Lib.hid hi
  have HV := Lib.hid (i_IsValidGame (p := x) hi)
  clear h hi
  cases hv : gameOk x V
  · rw [hv] at HV
    have HVV := Lib.hid hv
    clear hv
    go_enter Try.func11, Try.ntmps11
    go_wp2_with fail
    refine HV.out.mono ?_
    rintro e w1 ⟨rfl, hx⟩
    go_wp2
    refine bodyPost_ret (v := .tuple #[.slice none 0 0, .bool false]) (by simp [results, Try.results11, go_sem]) rfl ⟨⟨_, rfl, by unfold shapL; rw [shapT_not _ HVV.out]; exact OwnR.nil _ _⟩, HX.out.trans hx⟩
  · rw [hv] at HV
    obtain ⟨n, rfl, h1, h5, hlen, _, hbd⟩ := gameOk_len hv
    have HVV := Lib.hid hv
    have hm : m = cN n := by have := HL.out; omega
    have HM := Lib.hid hm
    have HBD := Lib.hid hbd
    clear hv hlen hbd hm
    go_enter Try.func11, Try.ntmps11
    go_wp2_with fail
    refine HV.out.mono ?_
    rintro e w1 ⟨rfl, hx⟩
    have c0 : w1.cell? ⟨w.heap.size, 0, none⟩ = some (.int .i64 (n : Int)) := hx.cellSome (by simp)
    have c1 : w1.cell? ⟨w.heap.size, 1, none⟩ = some (.slice a m cap) := hx.cellSome (by simp)
    have X1 := Lib.hid (HX.out.trans hx)
    obtain ⟨W, hW⟩ : ∃ W, W = w1.alloc (.cells #[.int .i64 (n : Int)] 3) := ⟨_, rfl⟩
    have hxW : Ext w1 W := by rw [hW]; exact Ext.alloc _ _
    have HI1 := Lib.hid ((HI.out.ext hx).ext hxW)
    have XW := Lib.hid (X1.out.trans hxW)
    have cn : W.cell? ⟨w1.heap.size, 0, none⟩ = some (.int .i64 (n : Int)) := by rw [hW]; simp
    have HT : Hid (Tells Try.prog W 61 #[.pointer (some ⟨w1.heap.size, 0, none⟩)] 6 (shV n)) := Lib.hid fun s w2 hs hx2 => i_ShapleyValue1 s n (by omega) h1 h5 (hx2.cellSome cn)
    clear hx
    go_upto_region 4 with fail
    rw [← hW]
    replace c0 := hxW.cellSome c0
    replace c1 := hxW.cellSome c1
    clear hW hxW
    have hk2 : Ext W W.drew := Ext.drew W
    have HKEEP := Lib.hid (fun (w' : World) (h : Ext W w') => (⟨h.cellSome c0, h.cellSome c1, h.cellSome cn, h⟩ : w'.cell? ⟨w.heap.size, 0, none⟩ = some (.int .i64 (n : Int)) ∧ w'.cell? ⟨w.heap.size, 1, none⟩ = some (.slice a m cap) ∧ w'.cell? ⟨w1.heap.size, 0, none⟩ = some (.int .i64 (n : Int)) ∧ Ext W w'))
    have hsW := XW.out.size
    go_region_held3 (fun w' => w'.cell? ⟨w.heap.size, 0, none⟩ = some (.int .i64 (n : Int)) ∧ w'.cell? ⟨w.heap.size, 1, none⟩ = some (.slice a m cap) ∧ w'.cell? ⟨w1.heap.size, 0, none⟩ = some (.int .i64 (n : Int)) ∧ Ext W w')
      (first
        | with_reducible exact HKEEP.out _ hk2)
      (first
        | (go_at_call 62
           (with_reducible refine (i_factorial _ (by omega) _).mono ?_)
           rintro e w4 ⟨rfl, rfl⟩)
        | (go_at_call 60
           (with_reducible refine (i_averages (HI1.out.ext hk2) h1 h5 HM.out HBD.out (shV_bd n h5) go_ShapleyValue1 (HT.out.ext hk2)).mono ?_)
           rintro e w5 ⟨⟨v5, rfl, ho5⟩, hx5⟩
           have O5 := Lib.hid ho5
           have hk2 := hk2.trans hx5
           clear ho5 hx5)
        | fail)
    all_goals go_wp2_with fail
    all_goals refine bodyPost_ret (v := .tuple #[v5, .bool true]) (by simp [results, Try.results11, go_sem]) rfl ⟨⟨_, rfl, ?_⟩, XW.out.trans hk2⟩
    all_goals
      unfold shapL
      rw [shapT_ok _ HVV.out, Int.toNat_natCast]
      exact O5.out.mono (by simpa using hsW)
end Go.Proofs.Ytgohdmnbnhehnaa
namespace Go.Proofs.Ytgohdmnbnhehnaa
set_option linter.unusedVariables false
def Fr (p : Int × Int) (x D : Int) : Prop := valR p = true ∧ 0 < D ∧ p.1 * D = x * p.2
theorem valR_gcd {p : Int × Int} (h : valR p = true) : gI p.1 p.2 = 1 := by
  simp only [valR, Bool.and_eq_true, decide_eq_true_eq] at h; exact h.2.2
theorem valR_mk {p : Int × Int} (h1 : 1 ≤ p.2) (h2 : p.2 ≤ 1000000000) (h3 : -1000000000 ≤ p.1) (h4 : p.1 ≤ 1000000000) (h5 : gI p.1 p.2 = 1) : valR p = true := by
  simp only [valR, inB, Bool.and_eq_true, decide_eq_true_eq]; omega
theorem gI_nat (a b : Int) : gI a b = 1 ↔ Nat.Coprime a.natAbs b.natAbs := by unfold gI Int.gcd Nat.Coprime; omega
theorem low_eq {a b c d : Int} (hb : 0 < b) (hd : 0 < d) (h1 : gI a b = 1) (h2 : gI c d = 1) (h : a * d = c * b) : a = c ∧ b = d := by
  rw [gI_nat] at h1 h2
  have hn : a.natAbs * d.natAbs = c.natAbs * b.natAbs := by rw [← Int.natAbs_mul, ← Int.natAbs_mul, h]
  have e1 : b.natAbs ∣ d.natAbs := Nat.Coprime.dvd_of_dvd_mul_left h1.symm ⟨c.natAbs, by rw [hn, Nat.mul_comm]⟩
  have e2 : d.natAbs ∣ b.natAbs := Nat.Coprime.dvd_of_dvd_mul_left h2.symm ⟨a.natAbs, by rw [← hn, Nat.mul_comm]⟩
  have e3 : b = d := by have := Nat.dvd_antisymm e1 e2; omega
  subst e3
  exact ⟨Int.eq_of_mul_eq_mul_right (by omega) h, rfl⟩
theorem Fr.eq {p q : Int × Int} {x D y E : Int} (h : Fr p x D) (k : Fr q y E) (e : x * E = y * D) : p = q := by
  obtain ⟨h1, h2, h3⟩ := h
  obtain ⟨k1, k2, k3⟩ := k
  have hb := (valR_bd h1).1
  have kb := (valR_bd k1).1
  have key : (p.1 * q.2) * (D * E) = (q.1 * p.2) * (D * E) := by grind
  have hDE : D * E ≠ 0 := Int.mul_ne_zero (by omega) (by omega)
  have := low_eq (by omega) (by omega) (valR_gcd h1) (valR_gcd k1) (Int.eq_of_mul_eq_mul_right hDE key)
  exact Prod.ext this.1 this.2
theorem Fr.move {p : Int × Int} {x D y E : Int} (h : Fr p x D) (hE : 0 < E) (e : x * E = y * D) : Fr p y E := by
  refine ⟨h.1, hE, ?_⟩
  have h3 := h.2.2
  have : (p.1 * E) * D = (y * p.2) * D := by grind
  exact Int.eq_of_mul_eq_mul_right (by have := h.2.1; omega) this
theorem Fr.int (c : Int) (h : -1000000000 ≤ c) (h' : c ≤ 1000000000) : Fr (c, 1) c 1 :=
  ⟨valR_mk (by simp) (by simp) h h' (by rw [gI_nat]; simp), by omega, rfl⟩
theorem gI_split (n d : Int) (hd : 0 < d) : 1 ≤ gI n d ∧ n = gI n d * n.tdiv (gI n d) ∧ d = gI n d * d.tdiv (gI n d) ∧ 0 < d.tdiv (gI n d) := by
  have hg := gI_pos n (show d ≠ 0 by omega)
  obtain ⟨k, hk⟩ := gI_dvdl n d
  obtain ⟨m, hm⟩ := gI_dvdr n d
  have h1 : n.tdiv (gI n d) = k := by conv => lhs; arg 1; rw [hk]
                                      exact Int.mul_tdiv_cancel_left _ (by omega)
  have h2 : d.tdiv (gI n d) = m := by conv => lhs; arg 1; rw [hm]
                                      exact Int.mul_tdiv_cancel_left _ (by omega)
  rw [h1, h2]
  refine ⟨hg, hk, hm, ?_⟩
  rcases Int.lt_or_le 0 m with h | h
  · exact h
  · have : gI n d * m ≤ 0 := Int.mul_nonpos_of_nonneg_of_nonpos (by omega) h
    omega
theorem ratOf_cut {n d : Int} (hd : 0 < d) (hn : -1000000000000000000 ≤ n ∧ n ≤ 1000000000000000000) (hd' : d ≤ 1000000000000000000) : ratOf n d = cutR (n.tdiv (gI n d), d.tdiv (gI n d)) := by
  unfold ratOf
  rw [if_neg (by simp [inB]; omega), if_neg (by omega)]
theorem ratOf_same {n d x D : Int} (hd : 0 < d) (hD : 0 < D) (hn : -1000000000000000000 ≤ n ∧ n ≤ 1000000000000000000) (hd' : d ≤ 1000000000000000000) (hx : -1000000000000000000 ≤ x ∧ x ≤ 1000000000000000000) (hD' : D ≤ 1000000000000000000) (e : n * D = x * d) : ratOf n d = ratOf x D := by
  rw [ratOf_cut hd hn hd', ratOf_cut hD hx hD']
  obtain ⟨g1, g2, g3, g4⟩ := gI_split n d hd
  obtain ⟨k1, k2, k3, k4⟩ := gI_split x D hD
  have key : (n.tdiv (gI n d) * D.tdiv (gI x D)) * (gI n d * gI x D) = (x.tdiv (gI x D) * d.tdiv (gI n d)) * (gI n d * gI x D) := by
    have a1 : (n.tdiv (gI n d) * D.tdiv (gI x D)) * (gI n d * gI x D) = (gI n d * n.tdiv (gI n d)) * (gI x D * D.tdiv (gI x D)) := by grind
    have a2 : (x.tdiv (gI x D) * d.tdiv (gI n d)) * (gI n d * gI x D) = (gI x D * x.tdiv (gI x D)) * (gI n d * d.tdiv (gI n d)) := by grind
    rw [a1, a2, ← g2, ← g3, ← k2, ← k3, e]
  have hne : gI n d * gI x D ≠ 0 := Int.mul_ne_zero (by omega) (by omega)
  have := low_eq g4 k4 (gI_cancel n d hd) (gI_cancel x D hD) (Int.eq_of_mul_eq_mul_right hne key)
  rw [this.1, this.2]
theorem ratOf_fr {n d : Int} (hd : 0 < d) (h : (ratOf n d).2 = true) : Fr (ratOf n d).1 n d := by
  refine ⟨ratOf_val h, hd, ?_⟩
  unfold ratOf at h ⊢
  split at h
  · simp at h
  · next h0 =>
    rw [if_neg h0]
    split at h
    · omega
    · next h1 =>
      rw [if_neg h1]
      unfold cutR at h ⊢
      split at h
      · next h2 =>
        rw [if_pos h2]
        obtain ⟨g1, g2, g3, g4⟩ := gI_split n d hd
        simp only
        generalize n.tdiv (gI n d) = k at *
        generalize d.tdiv (gI n d) = m at *
        generalize gI n d = g at *
        subst g2; grind
      · simp at h
theorem ratOf_is {n d x D : Int} (hd : 0 < d) (hn : -1000000000000000000 ≤ n ∧ n ≤ 1000000000000000000) (hd' : d ≤ 1000000000000000000) (hD : 0 < D) (hD' : D ≤ 1000000000) (hx : -1000000000 ≤ x ∧ x ≤ 1000000000) (e : n * D = x * d) :
    ∃ r, ratOf n d = (r, true) ∧ Fr r x D := by
  have h1 := ratOf_same hd hD hn hd' (by omega) (by omega) e
  have h2 := ratOf_ok (n := x) (d := D) (by omega) hD' hx.1 hx.2
  exact ⟨(ratOf x D).1, by rw [h1, ← h2], ratOf_fr hD h2⟩
theorem bd18 {p q : Int} (h : -1000000000 ≤ p ∧ p ≤ 1000000000) (k : -1000000000 ≤ q ∧ q ≤ 1000000000) : -1000000000000000000 ≤ p * q ∧ p * q ≤ 1000000000000000000 := mul_bd h.1 h.2 k.1 k.2
theorem Fr.add {p q : Int × Int} {x D y E z F : Int} (h : Fr p x D) (k : Fr q y E) (hF : 0 < F) (hF' : F ≤ 1000000000) (hz : -1000000000 ≤ z ∧ z ≤ 1000000000) (hs : -1000000000000000000 ≤ p.1 * q.2 + q.1 * p.2 ∧ p.1 * q.2 + q.1 * p.2 ≤ 1000000000000000000) (e : (x * E + y * D) * F = z * (D * E)) : ∃ r, addR p q = (r, true) ∧ Fr r z F := by
  obtain ⟨h1, h2, h3⟩ := h
  obtain ⟨k1, k2, k3⟩ := k
  have hb := valR_bd h1
  have kb := valR_bd k1
  have hp : 0 < p.2 * q.2 := Int.mul_pos (by omega) (by omega)
  have hDE : D * E ≠ 0 := Int.mul_ne_zero (by omega) (by omega)
  unfold addR
  rw [if_pos (by rw [h1, k1]; rfl)]
  refine ratOf_is hp hs (bd18 ⟨by omega, hb.2.1⟩ ⟨by omega, kb.2.1⟩).2 hF hF' hz ?_
  refine Int.eq_of_mul_eq_mul_right hDE ?_
  have : (p.1 * q.2 + q.1 * p.2) * F * (D * E) = ((p.1 * D) * (q.2 * E) + (q.1 * E) * (p.2 * D)) * F := by grind
  rw [this, h3, k3]
  have : (x * p.2 * (q.2 * E) + y * q.2 * (p.2 * D)) * F = ((x * E + y * D) * F) * (p.2 * q.2) := by grind
  rw [this, e]; grind
theorem Fr.neg {p : Int × Int} {x D : Int} (h : Fr p x D) : Fr (-p.1, p.2) (-x) D :=
  ⟨by rw [valR_neg]; exact h.1, h.2.1, by have := h.2.2; simp only; grind⟩
theorem Fr.sub {p q : Int × Int} {x D y E z F : Int} (h : Fr p x D) (k : Fr q y E) (hF : 0 < F) (hF' : F ≤ 1000000000) (hz : -1000000000 ≤ z ∧ z ≤ 1000000000) (hs : -1000000000000000000 ≤ p.1 * q.2 - q.1 * p.2 ∧ p.1 * q.2 - q.1 * p.2 ≤ 1000000000000000000) (e : (x * E - y * D) * F = z * (D * E)) : ∃ r, subR p q = (r, true) ∧ Fr r z F := by
  rw [← subR_add]
  exact h.add k.neg hF hF' hz (by simp only; rw [Int.neg_mul]; omega) (by grind)
theorem Fr.size {p : Int × Int} {x D : Int} (h : Fr p x D) : p.2 ≤ D ∧ p.1.natAbs ≤ x.natAbs := by
  obtain ⟨h1, h2, h3⟩ := h
  have hb := valR_bd h1
  have hc := valR_gcd h1
  rw [gI_nat] at hc
  have hn : p.1.natAbs * D.natAbs = x.natAbs * p.2.natAbs := by rw [← Int.natAbs_mul, ← Int.natAbs_mul, h3]
  have e1 : p.2.natAbs ∣ D.natAbs := Nat.Coprime.dvd_of_dvd_mul_left hc.symm ⟨x.natAbs, by rw [hn, Nat.mul_comm]⟩
  have e2 := Nat.le_of_dvd (by omega) e1
  refine ⟨by omega, ?_⟩
  have e3 : p.1.natAbs * p.2.natAbs ≤ x.natAbs * p.2.natAbs := by rw [← hn]; exact Nat.mul_le_mul_left _ e2
  exact Nat.le_of_mul_le_mul_right e3 (by omega)
end Go.Proofs.Ytgohdmnbnhehnaa
