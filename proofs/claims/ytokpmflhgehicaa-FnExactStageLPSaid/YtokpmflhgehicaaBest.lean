/- BestOrder on both sides. -/
import Derived.Test.YtokpmflhgehicaaOrders2
import Derived.Test.YtokpmflhgehicaaMarg
namespace Go.Proofs.Ytokpmflhgehicaa
set_option linter.unusedVariables false
set_option linter.unusedSimpArgs false
open Go.RowKit

theorem ordTo_prefix {n : Int} {p q : List Int} {k : Nat} (hk : k ≤ p.length) : ordTo n (p ++ q) k = ordTo n p k := by
  unfold ordTo
  rw [Bool.eq_iff_iff, List.all_eq_true, List.all_eq_true]
  refine forall_congr' fun i => forall_congr' fun hi => ?_
  have hi' : i < p.length := by have := List.mem_range.1 hi; omega
  rw [List.getElem?_append_left hi', List.take_append_of_le_length (by omega)]
theorem ordersF_ord (n : Nat) : ∀ (f : Nat) (p l : List Int), ordTo (n : Int) p p.length = true → l ∈ ordersF f n p → l.length = p.length + f ∧ ordTo (n : Int) l l.length = true
  | 0, p, l, hp, h => by
    simp only [ordersF, List.mem_singleton] at h
    subst h
    exact ⟨rfl, hp⟩
  | f + 1, p, l, hp, h => by
    simp only [ordersF, List.mem_flatMap, List.mem_range] at h
    obtain ⟨k, hk, hl⟩ := h
    split at hl
    · simp at hl
    · rename_i hh
      have hq : ordTo (n : Int) (p ++ [(k : Int)]) (p ++ [(k : Int)]).length = true := by
        rw [List.length_append, show p.length + [(k : Int)].length = p.length + 1 from rfl, ordTo_succ, ordTo_prefix (Nat.le_refl _), hp]
        simp only [Bool.true_and, List.getElem?_concat_length, Option.getD_some, Bool.and_eq_true, Bool.not_eq_true']
        refine ⟨by unfold inB; simp; omega, ?_⟩
        rw [List.take_append_of_le_length (Nat.le_refl _), List.take_length]
        simpa using hh
      have := ordersF_ord n f _ l hq hl
      simp at this ⊢
      exact ⟨by omega, this.2⟩
theorem orders_some : ∀ n : Fin 6, 1 ≤ n.val → 0 < (ordersF n.val n.val []).length ∧ (ordersF n.val n.val []).length ≤ 120 := by decide +kernel
theorem ordersOf_some (n : Nat) (h1 : 1 ≤ n) (h5 : n ≤ 5) : 0 < (ordersOf (n : Int)).length ∧ (ordersOf (n : Int)).length ≤ 120 := by
  unfold ordersOf
  rw [if_pos (by omega), Int.toNat_natCast]
  exact orders_some ⟨n, by omega⟩ h1
theorem ordersOf_ord (n : Nat) (h1 : 1 ≤ n) (h5 : n ≤ 5) (i : Nat) (hi : i < (ordersOf (n : Int)).length) :
    ((ordersOf (n : Int))[i]?.getD []).length = n ∧ ordTo (n : Int) ((ordersOf (n : Int))[i]?.getD []) n = true := by
  have hm : (ordersOf (n : Int))[i]?.getD [] ∈ ordersOf (n : Int) := by simp [hi]
  generalize (ordersOf (n : Int))[i]?.getD [] = l at hm
  unfold ordersOf at hm
  rw [if_pos (by omega), Int.toNat_natCast] at hm
  have := ordersF_ord n n [] l (by simp [ordTo]) hm
  simp at this
  exact ⟨this.1, by have h2 := this.2; rwa [this.1] at h2⟩

/-- The first greatest of X 0, X 1, .. -/
def bestAt (X : Nat → Int) : Nat → Nat × Int
  | 0 => (0, 0)
  | i + 1 => if i = 0 ∨ X i > (bestAt X i).2 then (i, X i) else bestAt X i
theorem bestAt_lt (X : Nat → Int) : ∀ i, (bestAt X (i + 1)).1 < i + 1
  | 0 => by simp [bestAt]
  | i + 1 => by
    have := bestAt_lt X i
    unfold bestAt
    split
    · simp
    · omega
/-- What player k adds in order number i. -/
def addsK (n : Nat) (V : List Int) (k i : Nat) : Int := (mvL n V ((ordersOf (n : Int))[i]?.getD []) n)[k]?.getD 0
def bestOk (p : Int) (V : List Int) (k : Int) : Bool := gameOk p V && inB k 0 (p - 1)
def bestI (p : Int) (V : List Int) (k : Int) : Nat × Int := bestAt (addsK p.toNat V k.toNat) (ordersOf p).length
def bestL (p : Int) (V : List Int) (k : Int) : List Int := if bestOk p V k then (ordersOf p)[(bestI p V k).1]?.getD [] else []
def bestM (p : Int) (V : List Int) (k : Int) : Int := if bestOk p V k then (bestI p V k).2 else 0
theorem bestL_len (p : Int) (V : List Int) (k : Int) : (bestL p V k).length ≤ 1048576 := by
  unfold bestL
  split
  · rename_i h
    unfold bestOk at h
    simp only [Bool.and_eq_true] at h
    obtain ⟨n, rfl, h1, h5, _⟩ := gameOk_len h.1
    by_cases hi : (bestI (n : Int) V k).1 < (ordersOf (n : Int)).length
    · have := (ordersOf_ord n h1 h5 _ hi).1
      omega
    · rw [List.getElem?_eq_none (by omega)]; simp
  · simp
/-- A list, a number and a truth value are returned. -/
def ListIB (w : World) (base : Nat) (e : Ending) (l : List Int) (m : Int) (b : Bool) : Prop := ∃ v, e = .returned (.tuple #[v, .int .i64 m, .bool b]) ∧ OwnI w base v l

/-- Row i of the orders. -/
theorem orders_row {w : World} {base n g N c : Nat} {vs : List Value} (h1 : 1 ≤ n) (h5 : n ≤ 5) (hv : OwnV w base (.slice (some ⟨g, 0, none⟩) N c) vs) (hr : RowsI w base vs (ordersOf (n : Int))) {i : Nat} (hi : i < N) :
    ∃ gi ci, vs[i]?.getD undef = .slice (some ⟨gi, 0, none⟩) n ci ∧ w.cell? ⟨g, i, none⟩ = some (.slice (some ⟨gi, 0, none⟩) n ci) ∧ OwnI w base (.slice (some ⟨gi, 0, none⟩) n ci) ((ordersOf (n : Int))[i]?.getD []) ∧ ordTo (n : Int) ((ordersOf (n : Int))[i]?.getD []) n = true := by
  have hlen := hv.len
  have hLi : i < (ordersOf (n : Int)).length := by rw [← hr.len, hlen]; exact hi
  have ho := ordersOf_ord n h1 h5 i hLi
  have hrow := hr.row i hLi
  obtain ⟨ai, ci, he, _⟩ := hrow.form
  rw [ho.1] at he
  rw [he] at hrow
  obtain ⟨gi, rfl, _⟩ := hrow.block (k := 0) (by omega)
  refine ⟨gi, ci, he, ?_, hrow, ho.2⟩
  obtain ⟨g', hg, _, hc⟩ := hv.cell hi
  have hgg := congrArg (Option.map Addr.block) hg
  simp at hgg
  subst hgg
  rw [hc i hi]
  have : i < vs.length := by rw [hlen]; exact hi
  simp only [this, List.getElem?_eq_getElem, Option.getD_some] at he ⊢
  rw [he]

set_option maxRecDepth 100000 in
set_option maxHeartbeats 4000000 in
theorem i_BestOrder {w : World} {p k : Int} {a : Option Addr} {n cap : Nat} {V : List Int} (h : Ints w a n cap V) :
    Calls Try.prog 71 #[pair p a n cap, .int .i64 k] w fun e w' => ListIB w' w.heap.size e (bestL p V k) (bestM p V k) (bestOk p V k) ∧ Ext w w' := by
  have hi := h.alloc (.cells #[.int .i64 p, .slice a n cap] 64)
  have HX := Lib.hid (Ext.alloc w (.cells #[.int .i64 p, .slice a n cap] 64))
  have HL := Lib.hid h.hlen
  have HV := Lib.hid (i_IsValidGame (p := p) hi)
  cases hv : gameOk p V
  · rw [hv] at HV
    have HM := Lib.hid (show bestOk p V k = false by unfold bestOk; rw [hv]; rfl)
    clear hv
    go_enter Try.func71, Try.ntmps71
    go_wp2_with fail
    refine HV.out.mono ?_
    rintro e w1 ⟨rfl, hx⟩
    go_wp2
    refine bodyPost_ret (v := .tuple #[.slice none 0 0, .int .i64 0, .bool false]) (by simp [results, Try.results71, go_sem]) rfl ?_
    exact ⟨⟨_, by unfold bestM; rw [HM.out]; rfl, by unfold bestL; rw [HM.out]; exact OwnI.nil _ _⟩, HX.out.trans hx⟩
  · rw [hv] at HV
    obtain ⟨m, rfl, hm1, hm5, _⟩ := gameOk_len hv
    have HG := Lib.hid hv
    have HI := Lib.hid hi
    have hint : IntKind.i64.wrap ((m : Int) - 1) = (m : Int) - 1 := by rw [IntKind.wrap_i64]; omega
    cases hk : inB k 0 ((m : Int) - 1)
    · have HM := Lib.hid (show bestOk (m : Int) V k = false by unfold bestOk; rw [hk]; simp)
      clear hv h hi
      go_enter Try.func71, Try.ntmps71
      go_wp2_with fail
      refine HV.out.mono ?_
      rintro e w1 ⟨rfl, hx⟩
      have c0 : w1.cell? ⟨w.heap.size, 0, none⟩ = some (.int .i64 (m : Int)) := hx.cellSome (by simp)
      have HX1 := Lib.hid hx
      clear hx
      go_wp2_with (first | (go_at_call 97; refine (i_within _ _ _ _).mono ?_; rintro e w' ⟨rfl, rfl⟩))
      refine bodyPost_ret (v := .tuple #[.slice none 0 0, .int .i64 0, .bool false]) (by simp [results, Try.results71, go_sem]) rfl ?_
      exact ⟨⟨_, by unfold bestM; rw [HM.out]; rfl, by unfold bestL; rw [HM.out]; exact OwnI.nil _ _⟩, HX.out.trans HX1.out⟩
    · have HM := Lib.hid (show bestOk (m : Int) V k = true by unfold bestOk; rw [hv, hk]; rfl)
      obtain ⟨j, rfl⟩ : ∃ j : Nat, k = j := ⟨k.toNat, by unfold inB at hk; simp at hk; omega⟩
      have hj : j < m := by unfold inB at hk; simp at hk; omega
      clear hv h hi
      go_enter Try.func71, Try.ntmps71
      go_wp2_with fail
      refine HV.out.mono ?_
      rintro e w1 ⟨rfl, hx⟩
      have c0 : w1.cell? ⟨w.heap.size, 0, none⟩ = some (.int .i64 (m : Int)) := hx.cellSome (by simp)
      have HX1 := Lib.hid hx
      clear hx
      go_wp2_with (first | (go_at_call 97; refine (i_within _ _ _ _).mono ?_; rintro e w' ⟨rfl, rfl⟩))
      refine (i_AllOrders (m : Int) _).mono ?_
      rintro e w2 ⟨v, rfl, ⟨vs, hov, hrows⟩, hx⟩
      obtain ⟨a3, N, c3, rfl, HN⟩ := hov.var
      have hNL : (ordersOf (m : Int)).length = N := by rw [← hrows.len]; exact HN.out
      have hsome := ordersOf_some m hm1 hm5
      have hN0 : 0 < N := by omega
      have hN120 : N ≤ 120 := by omega
      obtain ⟨g3, rfl, _, _⟩ := hov.cell (k := 0) hN0
      obtain ⟨_, _, hcf, hNc, hc9⟩ := hov.form
      have HX2 := Lib.hid (HX1.out.trans hx)
      have HOV := Lib.hid hov
      have HRW := Lib.hid hrows
      have HNL := Lib.hid hNL
      have hNcap : N ≤ c3 := by simp at hcf; omega
      have hc39 : c3 ≤ 9223372036854775807 := by simp at hcf; omega
      have hs1 := HX1.out.size
      clear hov hrows hx c0 hk hsome hNL hcf hNc hc9
      go_wp2
      go_loopw [27, 7, 8] (fun i b t wr => ∃ (z : Nat) (ab : Option Addr) (nb cb : Nat) (M : Int), z ≤ N ∧ i = .int .i64 (z : Int) ∧ b = .slice ab nb cb ∧ t = .int .i64 M ∧ Hid (M = (bestAt (addsK m V j) z).2) ∧ Hid ((z = 0 ∧ ab = none ∧ nb = 0 ∧ cb = 0) ∨ (1 ≤ z ∧ vs[(bestAt (addsK m V j) z).1]?.getD undef = .slice ab nb cb ∧ ab.isNone = false)) ∧ Hid (Ext w2 wr)) (fun i _ _ _ => N - (intOf i).toNat)
      case atStart => exact ⟨0, none, 0, 0, 0, Nat.zero_le _, rfl, rfl, rfl, Lib.hid rfl, Lib.hid (.inl ⟨rfl, rfl, rfl, rfl⟩), Lib.hid (Ext.refl _)⟩
      case round =>
        obtain ⟨z, ab, nb, cb, M, hz, rfl, rfl, rfl, HMM, HB, HX3⟩ := hrel
        have c0 : wr.cell? ⟨w.heap.size, 0, none⟩ = some (.int .i64 (m : Int)) := (HX2.out.trans HX3.out).cellSome (by simp)
        have c1 : wr.cell? ⟨w.heap.size, 1, none⟩ = some (.slice a n cap) := (HX2.out.trans HX3.out).cellSome (by simp)
        by_cases hlt : z < N
        · obtain ⟨gi, ci, hvi, hci, hoi, hord⟩ := orders_row hm1 hm5 HOV.out HRW.out hlt
          have hci' := HX3.out.cellSome hci
          have HVI := Lib.hid hvi
          have HMG := Lib.hid (i_marginals (HI.out.ext (HX2.out.trans HX3.out)) (hoi.ints.ext HX3.out) HG.out hord)
          clear hvi hci hoi hord
          go_wp2_with fail
          refine HMG.out.mono ?_
          rintro e w5 ⟨v5, rfl, ho5, hx5⟩
          obtain ⟨a5, n5, c5, rfl, N5⟩ := ho5.var
          have hn5 : n5 = m := by have := N5.out; rw [mvL_len] at this; exact this.symm
          subst hn5
          obtain ⟨b5, off5, rfl, hc5⟩ := ho5.ints.at hj
          obtain ⟨y, hy⟩ : ∃ y, y = (mvL n5 V ((ordersOf (n5 : Int))[z]?.getD []) n5)[j]?.getD 0 := ⟨_, rfl⟩
          rw [← hy] at hc5
          have HY := Lib.hid (show y = addsK n5 V j z from hy)
          have HX5 := Lib.hid (HX3.out.trans hx5)
          have hcap5 := ho5.ints.hcap
          have hmax5 := ho5.ints.hmax
          clear hy ho5 hx5
          have heq : ∀ w' : World, (binOp .eql 34 (.slice ab nb cb) (.slice none 0 0)).run Try.prog w' = .ok (.bool ab.isNone) w' := fun w' => Lib.run_eql_slice_nil w' _ _ ab nb cb 0 0 Try.underlying34
          rcases Nat.eq_zero_or_pos z with hz0 | hzp
          · subst hz0
            obtain ⟨rfl, rfl, rfl⟩ : ab = none ∧ nb = 0 ∧ cb = 0 := by
              rcases HB.out with ⟨_, h⟩ | ⟨h, _⟩
              · exact h
              · omega
            go_wp2
            go_roundw
            case rel => exact ⟨1, some ⟨gi, 0, none⟩, n5, ci, y, by omega, by go_num, rfl, rfl, Lib.hid (by rw [HY.out]; simp [bestAt]), Lib.hid (.inr ⟨by omega, by simpa [bestAt] using HVI.out, rfl⟩), HX5⟩
            case measure => simp [intOf]; omega
          · have hnb : ab.isNone = false := by
              rcases HB.out with ⟨h, _⟩ | ⟨_, _, h⟩
              · omega
              · exact h
            have hbv : vs[(bestAt (addsK n5 V j) z).1]?.getD undef = .slice ab nb cb := by
              rcases HB.out with ⟨h, _⟩ | ⟨_, h, _⟩
              · omega
              · exact h
            have HBV := Lib.hid hbv
            have HNB := Lib.hid hnb
            clear hbv
            by_cases hgt : y > M
            · have HGT := Lib.hid hgt
              go_wp2
              go_roundw
              case rel => exact ⟨z + 1, some ⟨gi, 0, none⟩, n5, ci, y, by omega, by go_num, rfl, rfl, Lib.hid (by unfold bestAt; rw [if_pos (.inr (by rw [← HY.out, ← HMM.out]; exact HGT.out))]; exact HY.out), Lib.hid (.inr ⟨by omega, by unfold bestAt; rw [if_pos (.inr (by rw [← HY.out, ← HMM.out]; exact HGT.out))]; exact HVI.out, rfl⟩), HX5⟩
              case measure => simp [intOf]; omega
            · have HGT := Lib.hid hgt
              have HZP := Lib.hid hzp
              go_wp2
              go_roundw
              case rel => exact ⟨z + 1, ab, nb, cb, M, by omega, by go_num, rfl, rfl, Lib.hid (by unfold bestAt; rw [if_neg (fun h => by rcases h with h | h; have := HZP.out; omega; rw [← HY.out, ← HMM.out] at h; have := HGT.out; omega)]; exact HMM.out), Lib.hid (.inr ⟨by omega, by unfold bestAt; rw [if_neg (fun h => by rcases h with h | h; have := HZP.out; omega; rw [← HY.out, ← HMM.out] at h; have := HGT.out; omega)]; exact HBV.out, HNB.out⟩), HX5⟩
              case measure => simp [intOf]; omega
        · have hze : z = N := by omega
          subst hze
          go_wp2
          refine bodyPost_ret (v := .tuple #[.slice ab nb cb, .int .i64 M, .bool true]) (by simp [results, Try.results71, go_sem]) rfl ?_
          have hbi : bestI (m : Int) V (j : Int) = bestAt (addsK m V j) z := by unfold bestI; rw [HNL.out]; simp
          refine ⟨⟨.slice ab nb cb, ?_, ?_⟩, HX.out.trans (HX2.out.trans HX3.out)⟩
          · unfold bestM; rw [HM.out, if_pos rfl, hbi, ← HMM.out]
          · unfold bestL
            rw [HM.out, if_pos rfl, hbi]
            rcases HB.out with ⟨h, _⟩ | ⟨_, h, _⟩
            · omega
            · have hlt := bestAt_lt (addsK m V j) (z - 1)
              rw [show z - 1 + 1 = z by omega] at hlt
              have hrow := HRW.out.row (bestAt (addsK m V j) z).1 (by rw [HNL.out]; exact hlt)
              rw [h] at hrow
              exact (hrow.ext HX3.out).mono (by have := HX.out.size; omega)

set_option maxRecDepth 100000 in
set_option maxHeartbeats 4000000 in
theorem s_BestOrder {w : World} {p k : Int} {a : Option Addr} {n cap : Nat} {V : List Int} (h : Ints w a n cap V) :
    Calls Try.prog 72 #[pair p a n cap, .int .i64 k] w fun e w' => ListIB w' w.heap.size e (bestL p V k) (bestM p V k) (bestOk p V k) ∧ Ext w w' := by
  have hi := h.alloc (.cells #[.int .i64 p, .slice a n cap] 64)
  have HX := Lib.hid (Ext.alloc w (.cells #[.int .i64 p, .slice a n cap] 64))
  have HL := Lib.hid h.hlen
  have HV := Lib.hid (s_IsValidGame (p := p) hi)
  cases hv : gameOk p V
  · rw [hv] at HV
    have HM := Lib.hid (show bestOk p V k = false by unfold bestOk; rw [hv]; rfl)
    clear hv
    go_enter Try.func72, Try.ntmps72
    go_wp2_with fail
    refine HV.out.mono ?_
    rintro e w1 ⟨rfl, hx⟩
    have HO := Lib.hid (OwnI.made w1 w.heap.size (HX.out.trans hx).size)
    go_wp2
    refine bodyPost_ret (v := .tuple #[.slice (some ⟨w1.heap.size, 0, none⟩) 0 0, .int .i64 0, .bool false]) (by simp [results, Try.results72, go_sem]) rfl ?_
    exact ⟨⟨_, by unfold bestM; rw [HM.out]; rfl, by unfold bestL; rw [HM.out]; exact HO.out⟩, (HX.out.trans hx).trans (Ext.alloc _ _)⟩
  · rw [hv] at HV
    obtain ⟨m, rfl, hm1, hm5, _⟩ := gameOk_len hv
    have HG := Lib.hid hv
    have HI := Lib.hid hi
    have hint : IntKind.i64.wrap ((m : Int) - 1) = (m : Int) - 1 := by rw [IntKind.wrap_i64]; omega
    cases hk : inB k 0 ((m : Int) - 1)
    · have HM := Lib.hid (show bestOk (m : Int) V k = false by unfold bestOk; rw [hk]; simp)
      clear hv h hi
      go_enter Try.func72, Try.ntmps72
      go_wp2_with fail
      refine HV.out.mono ?_
      rintro e w1 ⟨rfl, hx⟩
      have c0 : w1.cell? ⟨w.heap.size, 0, none⟩ = some (.int .i64 (m : Int)) := hx.cellSome (by simp)
      have HX1 := Lib.hid hx
      have HO := Lib.hid (OwnI.made w1 w.heap.size (HX.out.trans hx).size)
      clear hx
      go_wp2_with (first | (go_at_call 92; refine (s_l1In _ _ _ _).mono ?_; rintro e w' ⟨rfl, rfl⟩))
      refine bodyPost_ret (v := .tuple #[.slice (some ⟨w1.heap.size, 0, none⟩) 0 0, .int .i64 0, .bool false]) (by simp [results, Try.results72, go_sem]) rfl ?_
      exact ⟨⟨_, by unfold bestM; rw [HM.out]; rfl, by unfold bestL; rw [HM.out]; exact HO.out⟩, (HX.out.trans HX1.out).trans (Ext.alloc _ _)⟩
    · have HM := Lib.hid (show bestOk (m : Int) V k = true by unfold bestOk; rw [hv, hk]; rfl)
      obtain ⟨j, rfl⟩ : ∃ j : Nat, k = j := ⟨k.toNat, by unfold inB at hk; simp at hk; omega⟩
      have hj : j < m := by unfold inB at hk; simp at hk; omega
      clear hv h hi
      go_enter Try.func72, Try.ntmps72
      go_wp2_with fail
      refine HV.out.mono ?_
      rintro e w1 ⟨rfl, hx⟩
      have c0 : w1.cell? ⟨w.heap.size, 0, none⟩ = some (.int .i64 (m : Int)) := hx.cellSome (by simp)
      have HX1 := Lib.hid hx
      clear hx
      go_wp2_with (first | (go_at_call 92; refine (s_l1In _ _ _ _).mono ?_; rintro e w' ⟨rfl, rfl⟩))
      refine (s_AllOrders (m : Int) _).mono ?_
      rintro e w2 ⟨v, rfl, ⟨vs, hov, hrows⟩, hx⟩
      obtain ⟨a3, N, c3, rfl, HN⟩ := hov.var
      have hNL : (ordersOf (m : Int)).length = N := by rw [← hrows.len]; exact HN.out
      have hsome := ordersOf_some m hm1 hm5
      have hN0 : 0 < N := by omega
      have hN120 : N ≤ 120 := by omega
      obtain ⟨g3, rfl, _, _⟩ := hov.cell (k := 0) hN0
      obtain ⟨_, _, hcf, hNc, hc9⟩ := hov.form
      have HX2 := Lib.hid (HX1.out.trans hx)
      have HOV := Lib.hid hov
      have HRW := Lib.hid hrows
      have HNL := Lib.hid hNL
      have hNcap : N ≤ c3 := by simp at hcf; omega
      have hc39 : c3 ≤ 9223372036854775807 := by simp at hcf; omega
      have hs1 := HX1.out.size
      clear hov hrows hx c0 hk hsome hNL hcf hNc hc9
      go_wp2
      go_loopw [8, 9, 10] (fun b t i wr => ∃ (z : Nat) (M : Int) (bz : Nat), z ≤ N ∧ i = .int .i64 (z : Int) ∧ b = .int .i64 (bz : Int) ∧ t = .int .i64 M ∧ Hid (M = (bestAt (addsK m V j) z).2) ∧ Hid (bz = (bestAt (addsK m V j) z).1) ∧ bz ≤ 120 ∧ Hid (Ext w2 wr)) (fun _ _ i _ => N - (intOf i).toNat)
      case atStart => exact ⟨0, 0, 0, Nat.zero_le _, rfl, rfl, rfl, Lib.hid rfl, Lib.hid rfl, by omega, Lib.hid (Ext.refl _)⟩
      case round =>
        obtain ⟨z, M, bz, hz, rfl, rfl, rfl, HMM, HB, hbz, HX3⟩ := hrel
        have c0 : wr.cell? ⟨w.heap.size, 0, none⟩ = some (.int .i64 (m : Int)) := (HX2.out.trans HX3.out).cellSome (by simp)
        have c1 : wr.cell? ⟨w.heap.size, 1, none⟩ = some (.slice a n cap) := (HX2.out.trans HX3.out).cellSome (by simp)
        by_cases hlt : z < N
        · obtain ⟨gi, ci, hvi, hci, hoi, hord⟩ := orders_row hm1 hm5 HOV.out HRW.out hlt
          have hci' := HX3.out.cellSome hci
          have hk2 : Ext wr wr.drew := Ext.drew wr
          have HI3 := Lib.hid ((HI.out.ext (HX2.out.trans HX3.out)).ext hk2)
          have HOI := Lib.hid ((hoi.ints.ext HX3.out).ext hk2)
          have hol := ordersOf_ord m hm1 hm5 z (by rw [HNL.out]; exact hlt)
          have HML := Lib.hid (show margL (m : Int) V ((ordersOf (m : Int))[z]?.getD []) = mvL m V ((ordersOf (m : Int))[z]?.getD []) m by
            unfold margL margOk isOrd
            rw [HG.out, hol.1, hord, decide_eq_true rfl]
            simp)
          clear hvi hci hoi hord hol
          go_wp2_with fail
          go_region_held3 (fun w' => w'.cell? ⟨w.heap.size, 0, none⟩ = some (.int .i64 (m : Int)) ∧ w'.cell? ⟨w.heap.size, 1, none⟩ = some (.slice a n cap) ∧ w'.cell? ⟨g3, z, none⟩ = some (.slice (some ⟨gi, 0, none⟩) m ci) ∧ Ext wr w')
            (exact ⟨hk2.cellSome c0, hk2.cellSome c1, hk2.cellSome hci', hk2⟩)
            (first
              | (go_at_call 74; refine (s_MarginalVector HI3.out HOI.out).mono ?_; rw [HML.out]; rintro e w5 ⟨⟨v5, rfl, ho5⟩, hx5⟩; have hk2 := hk2.trans hx5))
          obtain ⟨a5, n5, c5, rfl, N5⟩ := ho5.var
          have hn5 : n5 = m := by have := N5.out; rw [mvL_len] at this; exact this.symm
          subst hn5
          obtain ⟨b5, off5, rfl, hc5⟩ := ho5.ints.at hj
          obtain ⟨y, hy⟩ : ∃ y, y = (mvL n5 V ((ordersOf (n5 : Int))[z]?.getD []) n5)[j]?.getD 0 := ⟨_, rfl⟩
          rw [← hy] at hc5
          have HY := Lib.hid (show y = addsK n5 V j z from hy)
          have HX5 := Lib.hid (HX3.out.trans hk2)
          have hcap5 := ho5.ints.hcap
          have hmax5 := ho5.ints.hmax
          clear hy ho5 hx5 hk2 c0 c1 hci'
          rcases Nat.eq_zero_or_pos z with hz0 | hzp
          · subst hz0
            go_wp2
            go_roundw
            case rel => exact ⟨1, y, 0, by omega, by go_num, rfl, rfl, Lib.hid (by rw [HY.out]; simp [bestAt]), Lib.hid (by simp [bestAt]), by omega, HX5⟩
            case measure => simp [intOf]; omega
          · have hzne : ((z : Int) == 0) = false := by simp; omega
            by_cases hgt : y > M
            · have HGT := Lib.hid hgt
              go_wp2
              go_roundw
              case rel => exact ⟨z + 1, y, z, by omega, by go_num, rfl, rfl, Lib.hid (by unfold bestAt; rw [if_pos (.inr (by rw [← HY.out, ← HMM.out]; exact HGT.out))]; exact HY.out), Lib.hid (by unfold bestAt; rw [if_pos (.inr (by rw [← HY.out, ← HMM.out]; exact HGT.out))]), by omega, HX5⟩
              case measure => simp [intOf]; omega
            · have HGT := Lib.hid hgt
              have HZP := Lib.hid hzp
              go_wp2
              go_roundw
              case rel => exact ⟨z + 1, M, bz, by omega, by go_num, rfl, rfl, Lib.hid (by unfold bestAt; rw [if_neg (fun h => by rcases h with h | h; have := HZP.out; omega; rw [← HY.out, ← HMM.out] at h; have := HGT.out; omega)]; exact HMM.out), Lib.hid (by unfold bestAt; rw [if_neg (fun h => by rcases h with h | h; have := HZP.out; omega; rw [← HY.out, ← HMM.out] at h; have := HGT.out; omega)]; exact HB.out), by omega, HX5⟩
              case measure => simp [intOf]; omega
        · have hze : z = N := by omega
          subst hze
          have hbl := bestAt_lt (addsK m V j) (z - 1)
          rw [show z - 1 + 1 = z by omega, ← HB.out] at hbl
          obtain ⟨gi, ci, hvi, hci, hoi, _⟩ := orders_row hm1 hm5 HOV.out HRW.out hbl
          have hci' := HX3.out.cellSome hci
          have HOI := Lib.hid hoi
          clear hvi hci hoi
          go_wp2
          refine bodyPost_ret (v := .tuple #[.slice (some ⟨gi, 0, none⟩) m ci, .int .i64 M, .bool true]) (by simp [results, Try.results72, go_sem]) rfl ?_
          have hbi : bestI (m : Int) V (j : Int) = bestAt (addsK m V j) z := by unfold bestI; rw [HNL.out]; simp
          refine ⟨⟨.slice (some ⟨gi, 0, none⟩) m ci, ?_, ?_⟩, HX.out.trans (HX2.out.trans HX3.out)⟩
          · unfold bestM; rw [HM.out, if_pos rfl, hbi, ← HMM.out]
          · unfold bestL
            rw [HM.out, if_pos rfl, hbi, ← HB.out]
            exact (HOI.out.ext HX3.out).mono (by have := HX.out.size; omega)

end Go.Proofs.Ytokpmflhgehicaa
