/- BestTrades: the program's search with a closure. -/
import Derived.Test.YtokpmflhgehicaaTrades
import Derived.Test.YtokpmflhgehicaaOrders2
namespace Go.Proofs.Ytokpmflhgehicaa
set_option linter.unusedVariables false
set_option linter.unusedSimpArgs false
set_option maxRecDepth 100000
open Go.RowKit

theorem bit_test0t (s : Int) (k : Nat) (h : 0 ≤ s) (h' : s ≤ 9223372036854775807) : (bits BinOp.and IntKind.i64 (s / 2 ^ k) 1 == 0) = !bit s k := by
  have h1 := div_pow s k h
  rw [and_one _ h1.1 (by omega)]
  unfold bit
  have : s / 2 ^ k % 2 = 0 ∨ s / 2 ^ k % 2 = 1 := by omega
  rcases this with h | h <;> simp [h]

theorem kwrap_powt (k : Nat) (h : k ≤ 5) : IntKind.i64.wrap ((2 : Int) ^ k) = 2 ^ k := by
  have := pow_pos k
  have := pow_le5 k h
  rw [IntKind.wrap_i64]; omega

/-- The captured variables, as the closure takes them. -/
abbrev capsT (bm bs bb bo bx bw : Nat) : Array Value := #[.pointer (some ⟨bm, 0, none⟩), .pointer (some ⟨bo, 0, none⟩), .pointer (some ⟨bx, 0, none⟩), .pointer (some ⟨bb, 0, none⟩), .pointer (some ⟨bw, 0, none⟩), .pointer (some ⟨bs, 0, none⟩)]
/-- What the search has in memory. -/
structure StT (w0 w : World) (S B s : Nat) (a : Option Addr) (n cap bm bs bb bo br bx bw base : Nat) (a1 : Option Addr) (n1 c1 : Nat) (st : Srch) : Prop where
  ord : w0.heap.size ≤ bm ∧ bm < bs ∧ bs < bb ∧ bb < bo ∧ bo < br ∧ br < bx ∧ bx < bw ∧ bw < base ∧ base ≤ w.heap.size
  hm : w.heap[bm]? = some (.cells #[.int .i64 (S : Int), .int .i64 (B : Int), .slice a n cap] 53 (0, 0))
  hs : w.heap[bs]? = some (.cells #[.int .i64 (s : Int)] 3 (0, 0))
  hb : w.heap[bb]? = some (.cells #[.slice a1 n1 c1] 34 (0, 0))
  ho : w.heap[bo]? = some (.cells #[.int .i64 st.most] 3 (0, 0))
  hr : Row w br 3 st.now
  hx : w.heap[bx]? = some (.cells #[.slice (some ⟨br, 0, none⟩) S S] 34 (0, 0))
  hw : w.heap[bw]? = some (.cells #[.func (.func 99) #[] (capsT bm bs bb bo bx bw)] 120 (0, 0))
  own : OwnI w base (.slice a1 n1 c1) st.best
  len : st.now.length = S
  bel : Ext w0 w

section
variable {w0 w w1 : World} {S B s : Nat} {a : Option Addr} {n cap bm bs bb bo br bx bw base : Nat} {a1 : Option Addr} {n1 c1 : Nat} {st : Srch}

theorem StT.ext (h : StT w0 w S B s a n cap bm bs bb bo br bx bw base a1 n1 c1 st) (hx : Ext w w1) : StT w0 w1 S B s a n cap bm bs bb bo br bx bw base a1 n1 c1 st :=
  ⟨by have := h.ord; have := hx.size; omega, (hx.block _ (lt_of_block h.hm)).trans h.hm, (hx.block _ (lt_of_block h.hs)).trans h.hs, (hx.block _ (lt_of_block h.hb)).trans h.hb, (hx.block _ (lt_of_block h.ho)).trans h.ho, h.hr.ext hx, (hx.block _ (lt_of_block h.hx)).trans h.hx, (hx.block _ (lt_of_block h.hw)).trans h.hw, h.own.ext hx, h.len, h.bel.trans hx⟩
theorem StT.setNow (h : StT w0 w S B s a n cap bm bs bb bo br bx bw base a1 n1 c1 st) (i : Nat) (x : Int) : StT w0 (w.setCell ⟨br, i, none⟩ (.int .i64 x)) S B s a n cap bm bs bb bo br bx bw base a1 n1 c1 ⟨st.now.set i x, st.best, st.most⟩ := by
  have ho := h.ord
  have hne : ∀ k, k ≠ br → (w.setCell ⟨br, i, none⟩ (.int .i64 x)).heap[k]? = w.heap[k]? := fun k hk => heap_setCell_other w _ k _ hk
  refine ⟨by simp; omega, ?_, ?_, ?_, ?_, h.hr.set i x, ?_, ?_, h.own.keep fun k hk => hne k (by have := (h.own.lt k hk).1; omega), by simpa using h.len, h.bel.setCell (by simp; omega) _⟩
  · rw [hne _ (by omega)]; exact h.hm
  · rw [hne _ (by omega)]; exact h.hs
  · rw [hne _ (by omega)]; exact h.hb
  · rw [hne _ (by omega)]; exact h.ho
  · rw [hne _ (by omega)]; exact h.hx
  · rw [hne _ (by omega)]; exact h.hw
theorem StT.setBest (h0 : StT w0 w S B s a n cap bm bs bb bo br bx bw base a1 n1 c1 st) (hx : Ext w w1) {a2 : Option Addr} {n2 c2 : Nat} {l : List Int} (hl : OwnI w1 w.heap.size (.slice a2 n2 c2) l) (x : Int) :
    StT w0 ((w1.setCell ⟨bb, 0, none⟩ (.slice a2 n2 c2)).setCell ⟨bo, 0, none⟩ (.int .i64 x)) S B s a n cap bm bs bb bo br bx bw base a2 n2 c2 ⟨st.now, l, x⟩ := by
  have h := h0.ext hx
  have ho := h.ord
  have ho0 := h0.ord
  have hne : ∀ k, k ≠ bb → k ≠ bo → ((w1.setCell ⟨bb, 0, none⟩ (.slice a2 n2 c2)).setCell ⟨bo, 0, none⟩ (.int .i64 x)).heap[k]? = w1.heap[k]? := fun k hk hk2 => (heap_setCell_other _ _ k _ hk2).trans (heap_setCell_other _ _ k _ hk)
  refine ⟨by simp; omega, ?_, ?_, ?_, ?_, ?_, ?_, ?_, (hl.mono (by omega)).keep fun k hk => hne k ?_ ?_, h.len, (h.bel.setCell (by simp; omega) _).setCell (by simp; omega) _⟩
  · rw [hne _ (by omega) (by omega)]; exact h.hm
  · rw [hne _ (by omega) (by omega)]; exact h.hs
  · rw [heap_setCell_other _ _ _ _ (by simp; omega)]; exact heap_setCell_one h.hb
  · exact heap_setCell_one ((heap_setCell_other _ _ _ _ (by simp; omega)).trans h.ho)
  · exact (h.hr.other (by simp; omega) _).other (by simp; omega) _
  · rw [hne _ (by omega) (by omega)]; exact h.hx
  · rw [hne _ (by omega) (by omega)]; exact h.hw
  · have := (hl.lt k hk).1; omega
  · have := (hl.lt k hk).1; omega
end

def StF (w0 : World) (S B s : Nat) (a : Option Addr) (n cap bm bs bb bo br bx bw base : Nat) (st : Srch) (w : World) : Prop := ∃ a1 n1 c1, StT w0 w S B s a n cap bm bs bb bo br bx bw base a1 n1 c1 st
theorem go_BestTrades1 : IsGo Try.prog 99 := isGo Try.func99 (by kernel_rfl) (by kernel_rfl)

set_option maxHeartbeats 8000000 in
theorem i_walk {w0 : World} {S B s : Nat} {G : List (List Int)} {a : Option Addr} {n cap : Nat} (hM : GoodM S B G) (hs : s < 32) (hG : IntSS w0 a n cap G) (bm bs bb bo br bx bw base : Nat) :
    ∀ (r i : Nat) (ii li sum : Int) (left : Nat) (w : World) (a1 : Option Addr) (n1 c1 : Nat) (st : Srch), ii = (i : Int) → li = (left : Int) → i + r = S → left < 32 → 0 ≤ sum → sum ≤ 100 * i →
    StT w0 w S B s a n cap bm bs bb bo br bx bw base a1 n1 c1 st →
    Calls Try.prog 99 #[.int .i64 ii, .int .i64 li, .int .i64 sum, .pointer (some ⟨bm, 0, none⟩), .pointer (some ⟨bo, 0, none⟩), .pointer (some ⟨bx, 0, none⟩), .pointer (some ⟨bb, 0, none⟩), .pointer (some ⟨bw, 0, none⟩), .pointer (some ⟨bs, 0, none⟩)] w fun e w' =>
      e = .returned (.tuple #[]) ∧ StF w0 S B s a n cap bm bs bb bo br bx bw base (walkF S B G s r left sum st) w' := by
  have hsb := hM.sb
  have hcf : ∀ (args : Array Value) (w : World), (callFunc 99 args).run Try.prog w = .ok (.enter 99 args) w := go_BestTrades1
  intro r
  induction r with
  | zero =>
    intro i ii li sum left w a1 n1 c1 st hii hli hi hleft hs0 hs1 hS
    subst hii hli
    have heq : ((i : Int) == (S : Int)) = true := by simp; omega
    have cm : w.cell? ⟨bm, 0, none⟩ = some (.int .i64 (S : Int)) := by rw [cell_of_row _ _ _ _ _ _ hS.hm]; rfl
    have co := cell_of_one hS.ho
    have fo := free_of_one hS.ho
    have cb := cell_of_one hS.hb
    have fb := free_of_one hS.hb
    have cx := cell_of_one hS.hx
    have hne1 : bb ≠ bo := by have := hS.ord; omega
    have hne2 : bo ≠ bb := by have := hS.ord; omega
    have HS := Lib.hid hS
    have HI := Lib.hid hi
    by_cases hgt : st.most < sum
    · have HZ := Lib.hid (show walkF S B G s 0 left sum st = ⟨st.now, st.now, sum⟩ by simp [walkF, hgt])
      have HN := Lib.hid (hS.hr.ints (n := S) (cap := S) hS.len (Nat.le_refl _) (by omega))
      clear hS hi
      go_enter Try.func99, Try.ntmps99
      go_wp2_with fail
      refine (clone_ints HN.out (by omega)).mono ?_
      rintro e w1 ⟨v, rfl, ho, hx⟩
      obtain ⟨a2, n2, c2, rfl, HN2⟩ := ho.var
      have hS1 := HS.out.ext hx
      have co := cell_of_one hS1.ho
      have fo := free_of_one hS1.ho
      have cb := cell_of_one hS1.hb
      have fb := free_of_one hS1.hb
      have HX := Lib.hid hx
      have HO := Lib.hid ho
      clear hx ho hS1
      go_wp2
      refine bodyPost_ret (results_none rfl _ _ _) rfl ?_
      rw [HZ.out]
      exact ⟨rfl, a2, n2, c2, HS.out.setBest HX.out HO.out sum⟩
    · have HZ := Lib.hid (show walkF S B G s 0 left sum st = st by simp [walkF, hgt])
      clear hS hi
      go_enter Try.func99, Try.ntmps99
      go_wp2
      refine bodyPost_ret (results_none rfl _ _ _) rfl ?_
      rw [HZ.out]
      exact ⟨rfl, a1, n1, c1, HS.out⟩
  | succ r ih =>
    intro i ii li sum left w a1 n1 c1 st hii hli hi hleft hs0 hs1 hS
    subst hii hli
    have heq : ((i : Int) == (S : Int)) = false := by simp; omega
    have hiS : i < S := by omega
    have hi' : S - (r + 1) = i := by omega
    have hord := hS.ord
    have cm0 : w.cell? ⟨bm, 0, none⟩ = some (.int .i64 (S : Int)) := by rw [cell_of_row _ _ _ _ _ _ hS.hm]; rfl
    have cx := cell_of_one hS.hx
    have hn := hS.hr.cell (k := i) (by rw [hS.len]; exact hiS)
    obtain ⟨y0, hy0⟩ : ∃ y, y = st.now[i]?.getD 0 := ⟨_, rfl⟩
    rw [← hy0] at hn
    have fn := hS.hr.free i
    have HS1 := Lib.hid (hS.setNow i (-1))
    have cw1 := cell_of_one HS1.out.hw
    have HI := Lib.hid hi'
    have HSUM := Lib.hid hi
    have HIH := Lib.hid ih
    have HMM := Lib.hid hM
    have hb0 := bit_test0t (s : Int) i (by omega) (by omega)
    have hn5 : S ≤ 5 := by omega
    clear hS hi hi' ih hy0
    go_enter Try.func99, Try.ntmps99
    go_wp2_with fail
    refine (HIH.out (i + 1) ((i : Int) + 1) (left : Int) sum left _ a1 n1 c1 _ (by simp) rfl (by have := HSUM.out; omega) hleft hs0 (by simp; omega) HS1.out).mono ?_
    rintro e w2 ⟨rfl, a2, n2, c2, hS2⟩
    have HS2 := Lib.hid hS2
    have cs2 := cell_of_one hS2.hs
    clear hS2 hn fn cx cm0 cw1
    cases hbi : bit (s : Int) i
    · rw [hbi] at hb0
      have HBI := Lib.hid hbi
      clear hbi
      go_wp2
      refine bodyPost_ret (results_none rfl _ _ _) rfl ?_
      rw [walkF_not _ _ _ _ (by rw [HI.out]; exact HBI.out), HI.out]
      exact ⟨rfl, a2, n2, c2, HS2.out⟩
    · rw [hbi] at hb0
      have HBI := Lib.hid hbi
      have cm1 : w2.cell? ⟨bm, 1, none⟩ = some (.int .i64 (B : Int)) := by rw [cell_of_row _ _ _ _ _ _ HS2.out.hm]; rfl
      have HZ := Lib.hid (walkF_to S B G s (r := r) (left := left) (sum := sum) (st := st) (by rw [HI.out]; exact HBI.out))
      clear hbi
      go_wp2
      go_loopw [39] (fun j wr => ∃ (k : Nat), k ≤ B ∧ j = .int .i64 (k : Int) ∧ StF w0 S B s a n cap bm bs bb bo br bx bw base (walkTo S B G s r left sum st k) wr) (fun j _ => B - (intOf j).toNat)
      case atStart => exact ⟨0, Nat.zero_le _, rfl, a2, n2, c2, by rw [walkTo_zero, HI.out]; exact HS2.out⟩
      case round =>
        obtain ⟨k, hk, rfl, a3, n3, c3, hS3⟩ := hrel
        have HS3 := Lib.hid hS3
        have cm0 : wr.cell? ⟨bm, 0, none⟩ = some (.int .i64 (S : Int)) := by rw [cell_of_row _ _ _ _ _ _ hS3.hm]; rfl
        have cx := cell_of_one hS3.hx
        by_cases hlt : k < B
        · have hbt := bit_test (left : Int) (S + k) (by omega) (by omega)
          cases hbl : bit (left : Int) (S + k)
          · rw [hbl] at hbt
            have HBL := Lib.hid hbl
            clear hbl hS3
            go_wp2
            go_roundw
            case rel => exact ⟨k + 1, by omega, by go_num, a3, n3, c3, by rw [walkTo_succ, HBL.out, if_neg (by simp)]; exact HS3.out⟩
            case measure => simp [intOf]; omega
          · rw [hbl] at hbt
            have HBL := Lib.hid hbl
            have hord3 := hS3.ord
            have hn3 := hS3.hr.cell (k := i) (by rw [hS3.len]; exact hiS)
            obtain ⟨y3, hy3⟩ : ∃ y, y = (walkTo S B G s r left sum st k).now[i]?.getD 0 := ⟨_, rfl⟩
            rw [← hy3] at hn3
            have fn3 := hS3.hr.free i
            have hS4 := hS3.setNow i (k : Int)
            have HS4 := Lib.hid hS4
            have hiG : i < n := by have := hG.hlen; have := HMM.out.rows; omega
            have hncap := hG.hcap
            have hnmax := hG.hmax
            obtain ⟨gb, goff, ga, gn, gc, hga, hgc0, hgr⟩ := hG.at hiG
            have hgn : k < gn := by have h1 := hgr.hlen; have h2 := HMM.out.row i hiS; omega
            obtain ⟨rb, roff, hra, hrc0⟩ := hgr.at hgn
            have hgk := HMM.out.bd i k
            obtain ⟨y, hy⟩ : ∃ y, y = gain G i k := ⟨_, rfl⟩
            have hrc0 : w0.cell? ⟨rb, roff + k, none⟩ = some (.int .i64 y) := by rw [hy]; exact hrc0
            have hgc := hS4.bel.cellSome hgc0
            have hrc := hS4.bel.cellSome hrc0
            have HGC := Lib.hid hgc0
            have HRC := Lib.hid hrc0
            rw [← hy] at hgk
            have HY := Lib.hid hy
            have hgcap := hgr.hcap
            have hgmax := hgr.hmax
            have cw4 := cell_of_one hS4.hw
            have cm40 : (wr.setCell ⟨br, i, none⟩ (.int .i64 (k : Int))).cell? ⟨bm, 0, none⟩ = some (.int .i64 (S : Int)) := by rw [cell_of_row _ _ _ _ _ _ hS4.hm]; rfl
            have cm42 : (wr.setCell ⟨br, i, none⟩ (.int .i64 (k : Int))).cell? ⟨bm, 2, none⟩ = some (.slice a n cap) := by rw [cell_of_row _ _ _ _ _ _ hS4.hm]; rfl
            subst hga hra
            obtain ⟨w4, hw4⟩ : ∃ w4, w4 = wr.setCell ⟨br, i, none⟩ (.int .i64 (k : Int)) := ⟨_, rfl⟩
            have HW4 := Lib.hid hw4
            rw [← hw4] at hgc hrc cw4 cm40 cm42 HS4
            clear hbl hS3 hS4 hgr hy hy3 hw4 hord3 hgc0 hrc0
            have hk2 : Ext w4 w4.drew := Ext.drew w4
            have ecut := tcut hleft (show S + k < 5 by omega) HBL.out
            obtain ⟨u, hu⟩ : ∃ u : Nat, u = left - 2 ^ (S + k) := ⟨_, rfl⟩
            have hu32 : u < 32 := by rw [hu]; exact Nat.lt_of_le_of_lt (Nat.sub_le _ _) hleft
            rw [← hu] at ecut
            have HU := Lib.hid hu
            have eSk : IntKind.i64.wrap ((S : Int) + (k : Int)) = (S : Int) + (k : Int) := by rw [IntKind.wrap_i64]; omega
            have eI : IntKind.i64.wrap ((i : Int) + 1) = (i : Int) + 1 := by rw [IntKind.wrap_i64]; omega
            have eSum : IntKind.i64.wrap (sum + y) = sum + y := by rw [IntKind.wrap_i64]; omega
            have HPow := Lib.hid (kwrap_powt (S + k) (by omega))
            have HTN := Lib.hid (show ((S : Int) + (k : Int)).toNat = S + k by omega)
            have HCut := Lib.hid ecut
            clear hu ecut
            go_wp2
            rw [← HW4.out]
            go_region_held3 (fun w' => w'.cell? ⟨bw, 0, none⟩ = some (.func (.func 99) #[] (capsT bm bs bb bo bx bw)) ∧ w'.cell? ⟨bm, 0, none⟩ = some (.int .i64 (S : Int)) ∧ w'.cell? ⟨bm, 2, none⟩ = some (.slice (some ⟨gb, goff, none⟩) n cap) ∧ w'.cell? ⟨gb, goff + i, none⟩ = some (.slice (some ⟨rb, roff, none⟩) gn gc) ∧ w'.cell? ⟨rb, roff + k, none⟩ = some (.int .i64 y))
              (first
                | exact ⟨hk2.cellSome cw4, hk2.cellSome cm40, hk2.cellSome cm42, hk2.cellSome hgc, hk2.cellSome hrc⟩
                | exact ⟨cell_of_one HS5.out.hw, by rw [cell_of_row _ _ _ _ _ _ HS5.out.hm]; rfl, by rw [cell_of_row _ _ _ _ _ _ HS5.out.hm]; rfl, HS5.out.bel.cellSome HGC.out, HS5.out.bel.cellSome HRC.out⟩)
              (first
                | (rw [HTN.out, HPow.out, HCut.out]
                   have T1 := HIH.out (i + 1) ((i : Int) + 1) (u : Int) (sum + y) u _ a3 n3 c3 _ (by simp) rfl (by have := HSUM.out; omega) hu32 (by omega) (by simp; omega) (HS4.out.ext hk2)
                   with_reducible refine T1.mono ?_
                   rintro e w5 ⟨rfl, a5, n5, c5, hS5⟩
                   have HS5 := Lib.hid hS5
                   clear hS5 T1))
            go_wp2
            go_roundw
            case rel => exact ⟨k + 1, by omega, by go_num, a5, n5, c5, by rw [walkTo_succ, HBL.out, if_pos rfl, HI.out, ← HY.out, ← HU.out]; exact HS5.out⟩
            case measure => simp [intOf]; omega
        · have hkB : k = B := by omega
          subst hkB
          clear hS3
          go_wp2
          go_end0
          rw [HZ.out]
          exact ⟨rfl, a3, n3, c3, HS3.out⟩
end Go.Proofs.Ytokpmflhgehicaa
