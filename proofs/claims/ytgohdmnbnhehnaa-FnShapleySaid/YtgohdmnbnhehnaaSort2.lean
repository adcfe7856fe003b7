/- The claimants by their claims: the program's stable sort; the reference's insertions. -/
import Derived.Test.YtgohdmnbnhehnaaSort
namespace Go.Proofs.Ytgohdmnbnhehnaa
set_option linter.unusedVariables false
set_option linter.unusedSimpArgs false
set_option maxRecDepth 100000
open Go.RowKit

section
variable {w0 w : World} {cb : Nat} {a' : Option Addr} {n' c' : Nat} {C : List Int} {base : Nat} {a : Option Addr} {n cap : Nat}
set_option maxHeartbeats 1000000 in
theorem i_stable (hb : w0.cell? ⟨cb, 0, none⟩ = some (.slice a' n' c')) (hC : Ints w0 a' n' c' C) (bd : ∀ k : Nat, 0 ≤ C[k]?.getD 0 ∧ C[k]?.getD 0 ≤ 100000)
    (hn : n = n') (h1 : 1 ≤ n) (h5 : n ≤ 5) (hx0 : Ext w0 w) (hbase : w0.heap.size ≤ base) (h : OwnI w base (.slice a n cap) (seqI 0 n)) :
    Calls Try.prog 132 #[.slice a n cap, .int .i64 (n : Int), .func (.func 89) #[] #[.pointer (some ⟨cb, 0, none⟩)]] w fun e w' => e = .returned (.tuple #[]) ∧ OwnI w' base (.slice a n cap) (srt C n) ∧ Ext w0 w' := by
  have HS := Lib.hid (i_isort hb hC bd hn h1 h5 hx0 hbase h)
  clear hb hC bd hn hx0 h
  go_enter Try.func132, Try.ntmps132
  go_wp2
  go_loopw [7, 8] (fun x y wr => x = .int .i64 0 ∧ y = .int .i64 20 ∧ wr = w) (fun _ _ _ => 0)
  case atStart => exact ⟨rfl, rfl, rfl⟩
  case round =>
    obtain ⟨rfl, rfl, rfl⟩ := hrel
    go_wp2_with fail
    refine HS.out.mono ?_
    rintro e w1 ⟨rfl, ho, hx⟩
    have HO := Lib.hid ho
    have HX := Lib.hid hx
    clear ho hx
    go_wp2
    go_loopw [6] (fun x wr2 => x = .int .i64 20 ∧ Hid (OwnI wr2 base (.slice a n cap) (srt C n)) ∧ Hid (Ext w0 wr2)) (fun _ _ => 0)
    case atStart => exact ⟨rfl, HO, HX⟩
    case round =>
      obtain ⟨rfl, HO2, HX2⟩ := hrel
      go_wp2
      go_end0
      exact ⟨rfl, HO2.out, HX2.out⟩
set_option maxHeartbeats 1000000 in
theorem i_sortS (hb : w0.cell? ⟨cb, 0, none⟩ = some (.slice a' n' c')) (hC : Ints w0 a' n' c' C) (bd : ∀ k : Nat, 0 ≤ C[k]?.getD 0 ∧ C[k]?.getD 0 ≤ 100000)
    (hn : n = n') (h1 : 1 ≤ n) (h5 : n ≤ 5) (hx0 : Ext w0 w) (hbase : w0.heap.size ≤ base) (h : OwnI w base (.slice a n cap) (seqI 0 n)) :
    Calls Try.prog 88 #[.slice a n cap, .func (.func 89) #[] #[.pointer (some ⟨cb, 0, none⟩)]] w fun e w' => e = .returned (.tuple #[]) ∧ OwnI w' base (.slice a n cap) (srt C n) ∧ Ext w0 w' := by
  have HS := Lib.hid (i_stable hb hC bd hn h1 h5 hx0 hbase h)
  clear hb hC bd hn hx0 h
  go_enter Try.func88, Try.ntmps88
  go_wp2_with fail
  refine HS.out.mono ?_
  rintro e w1 ⟨rfl, ho, hx⟩
  go_wp2
  go_end0
  exact ⟨rfl, ho, hx⟩
end

theorem Ints.oneS (w : World) (x : Int) (t : TypeId) (n : Nat) (hn : n = w.heap.size) : Ints (w.alloc (.cells #[.int .i64 x] t)) (some ⟨n, 0, none⟩) 1 1 [x] := by
  subst hn
  exact Ints.one w x t
theorem OwnI.madeS (w : World) (base n : Nat) (hn : n = w.heap.size) (hb : base ≤ w.heap.size) : OwnI (w.alloc (.cells #[] 3)) base (.slice (some ⟨n, 0, none⟩) 0 0) [] := by
  subst hn
  exact OwnI.made w base hb
theorem Ints.take' {w : World} {a : Option Addr} {n cap : Nat} {l : List Int} (h : Ints w a n cap l) {k : Nat} (hk : k ≤ n) : Ints w a k cap (l.take k) :=
  ⟨by have := h.hlen; simp; omega, by have := h.hcap; omega, h.hmax, fun j hj => by
    obtain ⟨b, off, e, hc⟩ := h.cell j (by omega)
    refine ⟨b, off, e, fun i hi => ?_⟩
    rw [hc i (by omega), List.getElem?_take, if_pos hi]⟩
theorem Ints.drop' {w : World} {b off n cap : Nat} {l : List Int} (h : Ints w (some ⟨b, off, none⟩) n cap l) {k : Nat} (hk : k ≤ n) : Ints w (some ⟨b, off + k, none⟩) (n - k) (cap - k) (l.drop k) :=
  ⟨by have := h.hlen; simp; omega, by have := h.hcap; omega, by have := h.hmax; omega, fun j hj => by
    obtain ⟨b', off', e, hc⟩ := h.cell (j + k) (by omega)
    simp only [Option.some.injEq, Addr.mk.injEq, and_true] at e
    obtain ⟨rfl, rfl⟩ := e
    refine ⟨b, off + k, rfl, fun i hi => ?_⟩
    have := hc (i + k) (by omega)
    rw [show off + k + i = off + (i + k) by omega, this, List.getElem?_drop, Nat.add_comm k i]⟩

theorem Ints.dropIf {w : World} {b n cap : Nat} {l : List Int} (h : Ints w (some ⟨b, 0, none⟩) n cap l) {k : Nat} (hk : k ≤ n) : Ints w (if cap = k then some ⟨b, 0, none⟩ else some ⟨b, k, none⟩) (n - k) (cap - k) (l.drop k) := by
  have hc := h.hcap
  split
  · exact ⟨by have := h.hlen; simp; omega, by omega, by have := h.hmax; omega, fun j hj => absurd hj (by omega)⟩
  · have := h.drop' hk
    rwa [Nat.zero_add] at this

set_option maxHeartbeats 4000000 in
theorem s_l18Order {w : World} {a : Option Addr} {n cap : Nat} {C : List Int} (h : Ints w a n cap C) (h5 : n ≤ 5) :
    Calls Try.prog 95 #[.slice a n cap] w fun e w' => (∃ v, e = .returned v ∧ OwnI w' w.heap.size v (srt C n)) ∧ Ext w w' := by
  have HI := Lib.hid h
  have hmax := h.hmax
  have hcap := h.hcap
  have HL := Lib.hid h.hlen
  have HO := Lib.hid (OwnI.made w w.heap.size (Nat.le_refl _))
  clear h
  go_enter Try.func95, Try.ntmps95
  go_wp2
  go_loopw [3, 4] (fun o i wr => ∃ (k : Nat) (g p1 : Nat), k ≤ n ∧ i = .int .i64 (k : Int) ∧ o = .slice (some ⟨g, 0, none⟩) k p1 ∧ Hid (OwnI wr w.heap.size (.slice (some ⟨g, 0, none⟩) k p1) (srt C k)) ∧ Hid (Ext w wr)) (fun _ i _ => n - (intOf i).toNat)
  case atStart => exact ⟨0, _, _, Nat.zero_le _, rfl, rfl, HO, Lib.hid (Ext.alloc _ _)⟩
  case round =>
    obtain ⟨k, g, p1, hk, rfl, rfl, HO1, HX1⟩ := hrel
    have hpc := HO1.out.ints.hcap
    have hpm := HO1.out.ints.hmax
    by_cases hlt : k < n
    · go_wp2
      go_loopw [5] (fun t wr2 => ∃ j : Nat, j ≤ k ∧ t = .int .i64 (j : Int) ∧ Hid (OwnI wr2 w.heap.size (.slice (some ⟨g, 0, none⟩) k p1) (srt C k)) ∧ Hid (Ext w wr2) ∧ Hid (posR C (k : Int) (srt C k) k = posR C (k : Int) (srt C k) j)) (fun t _ => (intOf t).toNat)
      case atStart => exact ⟨k, Nat.le_refl _, rfl, HO1, HX1, Lib.hid rfl⟩
      case round =>
        obtain ⟨j, hj, rfl, HO2, HX2, HP⟩ := hrel
        have hk2 : Ext wr wr.drew := Ext.drew wr
        by_cases hj0 : j = 0
        · subst hj0
          have HP0 := Lib.hid (show posR C (k : Int) (srt C k) k = 0 by rw [HP.out]; rfl)
          have hjk : 0 ≤ k := Nat.zero_le _
          go_wp2
          refine wp_region_held_drew (S := (fun w' => Ext wr w')) (by kernel_rfl) ?_ (fun hHeld => ?_)
          · exact hk2
          refine tk (i := 0) (h := ?_)
          try simp only [Act.put, sA, sB, sC]
          refine tk (i := 1) (h := ?_)
          try simp only [Act.put, sA, sB, sC]
          refine tk (i := 2) (h := ?_)
          try simp only [Act.put, sA, sB, sC]
          refine sk (i := 3) (h := ?_)
          try simp only [Act.put, sA, sB, sC]
          refine sk (i := 4) (h := ?_)
          try simp only [Act.put, sA, sB, sC]
          refine sk (i := 5) (h := ?_)
          try simp only [Act.put, sA, sB, sC]
          refine sk (i := 6) (h := ?_)
          try simp only [Act.put, sA, sB, sC]
          refine sk (i := 7) (h := ?_)
          try simp only [Act.put, sA, sB, sC]
          refine sk (i := 8) (h := ?_)
          try simp only [Act.put, sA, sB, sC]
          refine sk (i := 9) (h := ?_)
          try simp only [Act.put, sA, sB, sC]
          refine sk (i := 10) (h := ?_)
          try simp only [Act.put, sA, sB, sC]
          refine sk (i := 11) (h := ?_)
          try simp only [Act.put, sA, sB, sC]
          refine sk (i := 12) (h := ?_)
          try simp only [Act.put, sA, sB, sC]
          refine sk (i := 13) (h := ?_)
          try simp only [Act.put, sA, sB, sC]
          refine sk (i := 14) (h := ?_)
          try simp only [Act.put, sA, sB, sC]
          refine sk (i := 15) (h := ?_)
          try simp only [Act.put, sA, sB, sC]
          refine tk (i := 16) (h := ?_)
          try simp only [Act.put, sA, sB, sC]
          refine wpAnyH_done (by kernel_rfl) ?_ _
          have hOd := HO2.out.ext hk2
          obtain ⟨g', hg', hbg, _, hgl⟩ : ∃ g', (some ⟨g, 0, none⟩ : Option Addr) = some ⟨g', 0, none⟩ ∧ w.heap.size ≤ g' ∧ True ∧ g' < wr.heap.size := by
            have h1 := hOd.lt g rfl
            exact ⟨g, rfl, h1.1, trivial, by simpa using h1.2⟩
          simp only [Option.some.injEq, Addr.mk.injEq, and_true] at hg'
          subst hg'
          have HOd := Lib.hid hOd
          have Xd := Lib.hid (HX2.out.trans hk2)
          have hws : w.heap.size ≤ wr.heap.size := by have := HX2.out.size; omega
          clear hOd hk2
          go_wp2_with (first
            | (at_builtin
               (refine append_ints rfl _ _ rfl wr.heap.size (.slice (some ⟨wr.heap.size, 0, none⟩) 0 0) [] rfl (OwnI.madeS wr.drew wr.heap.size _ (by simp) (by simp)) _ 0 p1 _ rfl ((HOd.out.ext (Ext.alloc _ _)).ints.take' hjk) (by first | omega | (simp; done) | (simp; omega)) (by first | omega | (simp; done) | (simp; omega)) ?_
                intro v2 w4 ho hg hnear
                rw [List.nil_append] at ho
                obtain ⟨a2, n2, c2, rfl, HN2⟩ := ho.var
                have HA := Lib.hid ho
                have HOe := Lib.hid ((HOd.out.ext (Ext.alloc _ (.cells #[] 3))).keep fun q hq => hg.block q ((HOd.out.ext (Ext.alloc _ (.cells #[] 3))).lt q hq).2 fun e => by have h1 := Option.some.inj (show some wr.heap.size = some q from e.symm); have h2 := Option.some.inj (show some g = some q from hq); omega)
                have X4 := Lib.hid (ext_grown (Xd.out.trans (Ext.alloc _ (.cells #[] 3))) hg (fun q hq => by have := Option.some.inj (show some wr.heap.size = some q from hq); omega))
                have hs4 : wr.heap.size ≤ w4.heap.size := Nat.le_trans (by first | omega | (simp; done) | (simp; omega)) hg.size
                clear ho hg hnear))
            | (at_builtin
               (refine append_ints rfl _ _ rfl wr.heap.size (.slice a2 n2 c2) ((srt C k).take 0) rfl (HA.out.ext (Ext.alloc _ _)) _ 1 1 [(k : Int)] rfl (Ints.oneS _ _ _ _ rfl) (by first | omega | (simp; done) | (simp; omega)) (by first | omega | (simp; done) | (simp; omega)) ?_
                intro v3 w5 ho hg hnear
                obtain ⟨a3, n3, c3, rfl, HN3⟩ := ho.var
                have HB := Lib.hid ho
                have HOf := Lib.hid ((HOe.out.ext (Ext.alloc _ (.cells #[.int .i64 (k : Int)] 3))).keep fun q hq => hg.block q ((HOe.out.ext (Ext.alloc _ (.cells #[.int .i64 (k : Int)] 3))).lt q hq).2 fun e => by have h1 := (HA.out.lt q e.symm).1; have h2 := Option.some.inj (show some g = some q from hq); omega)
                have X5 := Lib.hid (ext_grown (X4.out.trans (Ext.alloc _ (.cells #[.int .i64 (k : Int)] 3))) hg (fun q hq => by have := (HA.out.lt q hq).1; omega))
                have hs5 : wr.heap.size ≤ w5.heap.size := Nat.le_trans (by first | omega | (simp; done) | (simp; omega)) hg.size
                clear ho hg hnear))
            | (at_builtin
               (refine append_ints rfl _ _ rfl wr.heap.size (.slice a3 n3 c3) ((srt C k).take 0 ++ [(k : Int)]) rfl HB.out _ (k - 0) (p1 - 0) _ rfl (HOf.out.ints.drop' hjk) (by first | omega | (simp; done) | (simp; omega)) hs5 ?_
                intro v4 w6 ho hg hnear
                obtain ⟨a4, n4, c4, rfl, HN4⟩ := ho.var
                have HD := Lib.hid ho
                have X6 := Lib.hid (ext_grown X5.out hg (fun q hq => by have := (HB.out.lt q hq).1; omega))
                clear ho hg hnear)))
          have hlist : (srt C k).take 0 ++ [(k : Int)] ++ (srt C k).drop 0 = srt C (k + 1) := by
            have hl := srt_len C k
            simp only [srt, insR, hl, HP0.out, List.append_assoc, List.cons_append, List.nil_append]
          have HD' := Lib.hid (show OwnI w6 wr.heap.size (.slice a4 n4 c4) (srt C (k + 1)) by have := HD.out; rwa [hlist] at this)
          have hn4 : n4 = k + 1 := by have := HD'.out.ints.hlen; rw [srt_len] at this; omega
          obtain ⟨g4, hg4, _, _, _⟩ := HD'.out.block (k := 0) (by omega)
          subst hg4 hn4
          go_roundw
          case rel => exact ⟨k + 1, g4, c4, by omega, by go_num, rfl, Lib.hid (HD'.out.mono hws), X6⟩
          case measure => simp [intOf]; omega
        · obtain ⟨m, hjm⟩ : ∃ m, j = m + 1 := ⟨j - 1, by omega⟩
          have HJM := Lib.hid hjm
          have hjk : j ≤ k := hj
          obtain ⟨z, hz, hzi⟩ := srt_at C (k := k) (j := m) (by omega)
          obtain ⟨b2, o2, he2, hd2⟩ := HO2.out.ints.at (k := m) (by omega)
          simp only [Option.some.injEq, Addr.mk.injEq, and_true] at he2
          obtain ⟨hz1, hz2⟩ := he2
          subst hz1 hz2
          rw [Nat.zero_add, hz] at hd2
          have HZ := Lib.hid hz
          have HIr := Lib.hid (HI.out.ext HX2.out)
          obtain ⟨b, off, he, hcz⟩ := HIr.out.at (k := z) (by omega)
          obtain ⟨b3, off3, he3, hck⟩ := HIr.out.at (k := k) hlt
          subst he
          simp only [Option.some.injEq, Addr.mk.injEq, and_true] at he3
          obtain ⟨hz3, hz4⟩ := he3
          subst hz3 hz4
          obtain ⟨K1, hK1⟩ : ∃ K, K = C[z]?.getD 0 := ⟨_, rfl⟩
          obtain ⟨K2, hK2⟩ : ∃ K, K = C[k]?.getD 0 := ⟨_, rfl⟩
          rw [← hK1] at hcz
          rw [← hK2] at hck
          have HKZ := Lib.hid (show keyC C ((srt C k)[m]?.getD 0) = K1 by rw [HZ.out, hK1]; simp [keyC])
          have HKK := Lib.hid (show keyC C (k : Int) = K2 by rw [hK2]; simp [keyC])
          have hmk : m < k := by omega
          have hzn : z < n := by omega
          have hj1 : 0 < j := by omega
          have hw1 : IntKind.i64.wrap ((j : Int) - 1) = (m : Int) := by rw [IntKind.wrap_i64]; omega
          have hw2 : wrap64 ((j : Int) - 1) = (m : Int) := by unfold wrap64; omega
          have hw3 : (j : Int) - 1 = (m : Int) := by omega
          have hw4 : IntKind.i64.wrap (m : Int) = (m : Int) := by rw [IntKind.wrap_i64]; omega
          have hw5 : wrap64 (m : Int) = (m : Int) := by unfold wrap64; omega
          clear hz hjm hK1 hK2
          by_cases hgt : K2 < K1
          · go_wp2
            go_region_held3 (fun w' => w'.cell? ⟨g, m, none⟩ = some (.int .i64 (z : Int)) ∧ w'.cell? ⟨b, off + z, none⟩ = some (.int .i64 K1) ∧ w'.cell? ⟨b, off + k, none⟩ = some (.int .i64 K2) ∧ Ext wr w')
              (exact ⟨hk2.cellSome hd2, hk2.cellSome hcz, hk2.cellSome hck, hk2⟩)
              (fail)
            go_wp2
            clear hw1 hw2 hw3 hw4 hw5
            go_roundw
            case rel =>
              have hjm := HJM.out
              exact ⟨m, by omega, by go_num, Lib.hid (HO2.out.ext hk2), Lib.hid (HX2.out.trans hk2), Lib.hid (by rw [HP.out, HJM.out, posR_go C (by rw [HKZ.out, HKK.out]; exact hgt)])⟩
            case measure => have hjm := HJM.out; simp [intOf]; omega
          have HPJ := Lib.hid (show posR C (k : Int) (srt C k) k = j by rw [HP.out, HJM.out, posR_stop C (by rw [HKZ.out, HKK.out]; exact hgt)])
          go_wp2
          go_region_held3 (fun w' => w'.cell? ⟨g, m, none⟩ = some (.int .i64 (z : Int)) ∧ w'.cell? ⟨b, off + z, none⟩ = some (.int .i64 K1) ∧ w'.cell? ⟨b, off + k, none⟩ = some (.int .i64 K2) ∧ Ext wr w')
            (exact ⟨hk2.cellSome hd2, hk2.cellSome hcz, hk2.cellSome hck, hk2⟩)
            (fail)
          clear hw1 hw2 hw3 hw4 hw5
          have hOd := HO2.out.ext hk2
          obtain ⟨g', hg', hbg, _, hgl⟩ : ∃ g', (some ⟨g, 0, none⟩ : Option Addr) = some ⟨g', 0, none⟩ ∧ w.heap.size ≤ g' ∧ True ∧ g' < wr.heap.size := by
            have h1 := hOd.lt g rfl
            exact ⟨g, rfl, h1.1, trivial, by simpa using h1.2⟩
          simp only [Option.some.injEq, Addr.mk.injEq, and_true] at hg'
          subst hg'
          have HOd := Lib.hid hOd
          have Xd := Lib.hid (HX2.out.trans hk2)
          have hws : w.heap.size ≤ wr.heap.size := by have := HX2.out.size; omega
          clear hOd hk2
          go_wp2_with (first
            | (at_builtin
               (refine append_ints rfl _ _ rfl wr.heap.size (.slice (some ⟨wr.heap.size, 0, none⟩) 0 0) [] rfl (OwnI.madeS wr.drew wr.heap.size _ (by simp) (by simp)) _ j p1 _ rfl ((HOd.out.ext (Ext.alloc _ _)).ints.take' hjk) (by first | omega | (simp; done) | (simp; omega)) (by first | omega | (simp; done) | (simp; omega)) ?_
                intro v2 w4 ho hg hnear
                rw [List.nil_append] at ho
                obtain ⟨a2, n2, c2, rfl, HN2⟩ := ho.var
                have HA := Lib.hid ho
                have HOe := Lib.hid ((HOd.out.ext (Ext.alloc _ (.cells #[] 3))).keep fun q hq => hg.block q ((HOd.out.ext (Ext.alloc _ (.cells #[] 3))).lt q hq).2 fun e => by have h1 := Option.some.inj (show some wr.heap.size = some q from e.symm); have h2 := Option.some.inj (show some g = some q from hq); omega)
                have X4 := Lib.hid (ext_grown (Xd.out.trans (Ext.alloc _ (.cells #[] 3))) hg (fun q hq => by have := Option.some.inj (show some wr.heap.size = some q from hq); omega))
                have hs4 : wr.heap.size ≤ w4.heap.size := Nat.le_trans (by first | omega | (simp; done) | (simp; omega)) hg.size
                clear ho hg hnear))
            | (at_builtin
               (refine append_ints rfl _ _ rfl wr.heap.size (.slice a2 n2 c2) ((srt C k).take j) rfl (HA.out.ext (Ext.alloc _ _)) _ 1 1 [(k : Int)] rfl (Ints.oneS _ _ _ _ rfl) (by first | omega | (simp; done) | (simp; omega)) (by first | omega | (simp; done) | (simp; omega)) ?_
                intro v3 w5 ho hg hnear
                obtain ⟨a3, n3, c3, rfl, HN3⟩ := ho.var
                have HB := Lib.hid ho
                have HOf := Lib.hid ((HOe.out.ext (Ext.alloc _ (.cells #[.int .i64 (k : Int)] 3))).keep fun q hq => hg.block q ((HOe.out.ext (Ext.alloc _ (.cells #[.int .i64 (k : Int)] 3))).lt q hq).2 fun e => by have h1 := (HA.out.lt q e.symm).1; have h2 := Option.some.inj (show some g = some q from hq); omega)
                have X5 := Lib.hid (ext_grown (X4.out.trans (Ext.alloc _ (.cells #[.int .i64 (k : Int)] 3))) hg (fun q hq => by have := (HA.out.lt q hq).1; omega))
                have hs5 : wr.heap.size ≤ w5.heap.size := Nat.le_trans (by first | omega | (simp; done) | (simp; omega)) hg.size
                clear ho hg hnear))
            | (at_builtin
               (refine append_ints rfl _ _ rfl wr.heap.size (.slice a3 n3 c3) ((srt C k).take j ++ [(k : Int)]) rfl HB.out _ (k - j) (p1 - j) _ rfl (HOf.out.ints.dropIf hjk) (by first | omega | (simp; done) | (simp; omega)) hs5 ?_
                intro v4 w6 ho hg hnear
                obtain ⟨a4, n4, c4, rfl, HN4⟩ := ho.var
                have HD := Lib.hid ho
                have X6 := Lib.hid (ext_grown X5.out hg (fun q hq => by have := (HB.out.lt q hq).1; omega))
                clear ho hg hnear)))
          have hlist : (srt C k).take j ++ [(k : Int)] ++ (srt C k).drop j = srt C (k + 1) := by
            have hl := srt_len C k
            simp only [srt, insR, hl, HPJ.out, List.append_assoc, List.cons_append, List.nil_append]
          have HD' := Lib.hid (show OwnI w6 wr.heap.size (.slice a4 n4 c4) (srt C (k + 1)) by have := HD.out; rwa [hlist] at this)
          have hn4 : n4 = k + 1 := by have := HD'.out.ints.hlen; rw [srt_len] at this; omega
          obtain ⟨g4, hg4, _, _, _⟩ := HD'.out.block (k := 0) (by omega)
          subst hg4 hn4
          go_roundw
          case rel => exact ⟨k + 1, g4, c4, by omega, by go_num, rfl, Lib.hid (HD'.out.mono hws), X6⟩
          case measure => simp [intOf]; omega
    · have hkn : k = n := by omega
      subst hkn
      go_wp2
      go_ret
      exact ⟨⟨_, rfl, HO1.out⟩, HX1.out⟩
end Go.Proofs.Ytgohdmnbnhehnaa
