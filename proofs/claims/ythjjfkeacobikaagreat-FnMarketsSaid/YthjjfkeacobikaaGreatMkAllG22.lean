import Derived.Test.YthjjfkeacobikaaGreatMkAllG3
import Derived.Deep.RegionLaw
import Derived.Laws.EntriesVeiled
import Derived.Test.YthjjfkeacobikaaGreatMkAllG21
import Derived.Test.YthjjfkeacobikaaGreatMkAllG6
set_option linter.unusedVariables false
set_option linter.unusedSimpArgs false
namespace Go.Proofs.YthjjfkeacobikaaGreat
open Go.RowKit
theorem heap_setCell_one {w : World} {b : Nat} {v u : Value} {t : TypeId} (h : w.heap[b]? = some (.cells #[v] t (0, 0))) : (w.setCell ⟨b, 0, none⟩ u).heap[b]? = some (.cells #[u] t (0, 0)) := one_setCell h
section
variable {w w' : World} {base bn bN bo bw n m c m' c' : Nat} {p : List Int} {L : List (List Int)} {a a' : Option Addr} {vs : List Value}
end
end Go.Proofs.YthjjfkeacobikaaGreat
namespace Go.Proofs.YthjjfkeacobikaaGreat
set_option maxRecDepth 100000
open Go.RowKit
theorem bit_test0t (s : Int) (k : Nat) (h : 0 ≤ s) (h' : s ≤ 9223372036854775807) : (bits BinOp.and IntKind.i64 (s / 2 ^ k) 1 == 0) = !bit s k := by
 have h1 := div_pow s k h
 rw [and_one _ h1.1 (by omega)]
 unfold bit
 have : s / 2 ^ k % 2 = 0 ∨ s / 2 ^ k % 2 = 1 := by omega
 rcases this with h | h <;> simp [h]
theorem kwrap_powt (k : Nat) (h : k ≤ 5) : IntKind.i64.wrap ((2 : Int) ^ k) = 2 ^ k := by
 have := pow_pos k
 have := pow_le5 k h
 rw [IntKind.wrap_i64]; omega
abbrev capsT (bm bs bb bo bx bw : Nat) : Array Value := #[.pointer (some ⟨bm, 0, none⟩), .pointer (some ⟨bo, 0, none⟩), .pointer (some ⟨bx, 0, none⟩), .pointer (some ⟨bb, 0, none⟩), .pointer (some ⟨bw, 0, none⟩), .pointer (some ⟨bs, 0, none⟩)]
structure StT (w0 w : World) (S B s : Nat) (a : Option Addr) (n cap bm bs bb bo br bx bw base : Nat) (a1 : Option Addr) (n1 c1 : Nat) (st : Srch) : Prop where
 ord : w0.heap.size ≤ bm ∧ bm < bs ∧ bs < bb ∧ bb < bo ∧ bo < br ∧ br < bx ∧ bx < bw ∧ bw < base ∧ base ≤ w.heap.size
 hm : w.heap[bm]? = some (.cells #[.int .i64 (S : Int), .int .i64 (B : Int), .slice a n cap] 52 (0, 0))
 hs : w.heap[bs]? = some (.cells #[.int .i64 (s : Int)] 3 (0, 0))
 hb : w.heap[bb]? = some (.cells #[.slice a1 n1 c1] 24 (0, 0))
 ho : w.heap[bo]? = some (.cells #[.int .i64 st.most] 3 (0, 0))
 hr : Row w br 3 st.now
 hx : w.heap[bx]? = some (.cells #[.slice (some ⟨br, 0, none⟩) S S] 24 (0, 0))
 hw : w.heap[bw]? = some (.cells #[.func (.func 108) #[] (capsT bm bs bb bo bx bw)] 129 (0, 0))
 own : OwnI w base (.slice a1 n1 c1) st.best
 len : st.now.length = S
 bel : Ext w0 w
section
variable {w0 w w1 : World} {S B s : Nat} {a : Option Addr} {n cap bm bs bb bo br bx bw base : Nat} {a1 : Option Addr} {n1 c1 : Nat} {st : Srch}
theorem StT.ext (h : StT w0 w S B s a n cap bm bs bb bo br bx bw base a1 n1 c1 st) (hx : Ext w w1) : StT w0 w1 S B s a n cap bm bs bb bo br bx bw base a1 n1 c1 st :=
 ⟨by have := h.ord; have := hx.size; omega, (hx.block _ (lt_of_block h.hm)).trans h.hm, (hx.block _ (lt_of_block h.hs)).trans h.hs, (hx.block _ (lt_of_block h.hb)).trans h.hb, (hx.block _ (lt_of_block h.ho)).trans h.ho, h.hr.ext hx, (hx.block _ (lt_of_block h.hx)).trans h.hx, (hx.block _ (lt_of_block h.hw)).trans h.hw, h.own.ext hx, h.len, h.bel.trans hx⟩
theorem StT.setNow (h : StT w0 w S B s a n cap bm bs bb bo br bx bw base a1 n1 c1 st) (i : Nat) (x : Int) : StT w0 (w.setCell ⟨br, i, none⟩ (.int .i64 x)) S B s a n cap bm bs bb bo br bx bw base a1 n1 c1 ⟨st.now.set i x, st.best, st.most⟩ := by
 have ho := h.ord
 have hne : ∀ k, k ≠ br → (w.setCell ⟨br, i, none⟩ (.int .i64 x)).heap[k]? = w.heap[k]? := fun k hk => heap_setCell_other w _ k _ hk
 refine ⟨by simp; omega, ?_, ?_, ?_, ?_, h.hr.set i x, ?_, ?_, h.own.keep fun k hk => hne k (by have := (h.own.lt k hk).1; omega), by simpa using h.len, h.bel.setCell (by simp; omega) _⟩
 ·rw [hne _ (by omega)]; exact h.hm
 ·rw [hne _ (by omega)]; exact h.hs
 ·rw [hne _ (by omega)]; exact h.hb
 ·rw [hne _ (by omega)]; exact h.ho
 ·rw [hne _ (by omega)]; exact h.hx
 ·rw [hne _ (by omega)]; exact h.hw
theorem StT.setBest (h0 : StT w0 w S B s a n cap bm bs bb bo br bx bw base a1 n1 c1 st) (hx : Ext w w1) {a2 : Option Addr} {n2 c2 : Nat} {l : List Int} (hl : OwnI w1 w.heap.size (.slice a2 n2 c2) l) (x : Int) :
 StT w0 ((w1.setCell ⟨bb, 0, none⟩ (.slice a2 n2 c2)).setCell ⟨bo, 0, none⟩ (.int .i64 x)) S B s a n cap bm bs bb bo br bx bw base a2 n2 c2 ⟨st.now, l, x⟩ := by
 have h := h0.ext hx
 have ho := h.ord
 have ho0 := h0.ord
 have hne : ∀ k, k ≠ bb → k ≠ bo → ((w1.setCell ⟨bb, 0, none⟩ (.slice a2 n2 c2)).setCell ⟨bo, 0, none⟩ (.int .i64 x)).heap[k]? = w1.heap[k]? := fun k hk hk2 => (heap_setCell_other _ _ k _ hk2).trans (heap_setCell_other _ _ k _ hk)
 refine ⟨by simp; omega, ?_, ?_, ?_, ?_, ?_, ?_, ?_, (hl.mono (by omega)).keep fun k hk => hne k ?_ ?_, h.len, (h.bel.setCell (by simp; omega) _).setCell (by simp; omega) _⟩
 ·rw [hne _ (by omega) (by omega)]; exact h.hm
 ·rw [hne _ (by omega) (by omega)]; exact h.hs
 ·rw [heap_setCell_other _ _ _ _ (by simp; omega)]; exact heap_setCell_one h.hb
 ·exact heap_setCell_one ((heap_setCell_other _ _ _ _ (by simp; omega)).trans h.ho)
 ·exact (h.hr.other (by simp; omega) _).other (by simp; omega) _
 ·rw [hne _ (by omega) (by omega)]; exact h.hx
 ·rw [hne _ (by omega) (by omega)]; exact h.hw
 ·have := (hl.lt k hk).1; omega
 ·have := (hl.lt k hk).1; omega
end
def StF (w0 : World) (S B s : Nat) (a : Option Addr) (n cap bm bs bb bo br bx bw base : Nat) (st : Srch) (w : World) : Prop := ∃ a1 n1 c1, StT w0 w S B s a n cap bm bs bb bo br bx bw base a1 n1 c1 st
theorem go_BestTrades1 : IsGo Tryz.prog 108 := isGo Tryz.func108 (by kernel_rfl) (by kernel_rfl)
set_option maxHeartbeats 8000000 in
theorem i_walk {w0 : World} {S B s : Nat} {G : List (List Int)} {a : Option Addr} {n cap : Nat} (hM : GoodM S B G) (hs : s < 32) (hG : IntSS w0 a n cap G) (bm bs bb bo br bx bw base : Nat) :
 ∀ (r i : Nat) (ii li sum : Int) (left : Nat) (w : World) (a1 : Option Addr) (n1 c1 : Nat) (st : Srch), ii = (i : Int) → li = (left : Int) → i + r = S → left < 32 → 0 ≤ sum → sum ≤ 100 * i →
 StT w0 w S B s a n cap bm bs bb bo br bx bw base a1 n1 c1 st →
 Calls Tryz.prog 108 #[.int .i64 ii, .int .i64 li, .int .i64 sum, .pointer (some ⟨bm, 0, none⟩), .pointer (some ⟨bo, 0, none⟩), .pointer (some ⟨bx, 0, none⟩), .pointer (some ⟨bb, 0, none⟩), .pointer (some ⟨bw, 0, none⟩), .pointer (some ⟨bs, 0, none⟩)] w fun e w' =>
  e = .returned (.tuple #[]) ∧ StF w0 S B s a n cap bm bs bb bo br bx bw base (walkF S B G s r left sum st) w' := by
 have hsb := hM.sb
 have hcf : ∀ (args : Array Value) (w : World), (callFunc 108 args).run Tryz.prog w = .ok (.enter 108 args) w := go_BestTrades1
 intro r
 induction r with
 | zero =>
   intro i ii li sum left w a1 n1 c1 st hii hli hi hleft hs0 hs1 hS
   subst hii hli
   have heq : ((i : Int) == (S : Int)) = true := by simp; omega
   have cm : w.cell? ⟨bm, 0, none⟩ = some (.int .i64 (S : Int)) := by rw [cell_of_row _ _ _ _ _ _ hS.hm]; rfl
   have co := cell_of_one hS.ho
   have fo := free_of_one hS.ho
   have cb := cell_of_one hS.hb
   have fb := free_of_one hS.hb
   have cx := cell_of_one hS.hx
   have hne1 : bb ≠ bo := by have := hS.ord; omega
   have hne2 : bo ≠ bb := by have := hS.ord; omega
   have HS := Lib.hid hS
   have HI := Lib.hid hi
   by_cases hgt : st.most < sum
   ·have HZ := Lib.hid (show walkF S B G s 0 left sum st = ⟨st.now, st.now, sum⟩ by simp [walkF, hgt])
    have HN := Lib.hid (hS.hr.ints (n := S) (cap := S) hS.len (Nat.le_refl _) (by omega))
    clear hS hi
    go_enter Tryz.func108, Tryz.ntmps108
    go_wp2_with fail
    refine (clone_ints HN.out (by omega)).mono ?_
    rintro e w1 ⟨v, rfl, ho, hx⟩
    obtain ⟨a2, n2, c2, rfl, HN2⟩ := ho.var
    have hS1 := HS.out.ext hx
    have co := cell_of_one hS1.ho
    have fo := free_of_one hS1.ho
    have cb := cell_of_one hS1.hb
    have fb := free_of_one hS1.hb
    have HX := Lib.hid hx
    have HO := Lib.hid ho
    clear hx ho hS1
    go_wp2
    refine bodyPost_ret (results_none rfl _ _ _) rfl ?_
    rw [HZ.out]
    exact ⟨rfl, a2, n2, c2, HS.out.setBest HX.out HO.out sum⟩
   ·have HZ := Lib.hid (show walkF S B G s 0 left sum st = st by simp [walkF, hgt])
    clear hS hi
    go_enter Tryz.func108, Tryz.ntmps108
    go_wp2
    refine bodyPost_ret (results_none rfl _ _ _) rfl ?_
    rw [HZ.out]
    exact ⟨rfl, a1, n1, c1, HS.out⟩
 | succ r ih =>
   intro i ii li sum left w a1 n1 c1 st hii hli hi hleft hs0 hs1 hS
   subst hii hli
   have heq : ((i : Int) == (S : Int)) = false := by simp; omega
   have hiS : i < S := by omega
   have hi' : S - (r + 1) = i := by omega
   have hord := hS.ord
   have cm0 : w.cell? ⟨bm, 0, none⟩ = some (.int .i64 (S : Int)) := by rw [cell_of_row _ _ _ _ _ _ hS.hm]; rfl
   have cx := cell_of_one hS.hx
   have hn := hS.hr.cell (k := i) (by rw [hS.len]; exact hiS)
   obtain ⟨y0, hy0⟩ : ∃ y, y = st.now[i]?.getD 0 := ⟨_, rfl⟩
   rw [← hy0] at hn
   have fn := hS.hr.free i
   have HS1 := Lib.hid (hS.setNow i (-1))
   have cw1 := cell_of_one HS1.out.hw
   have HI := Lib.hid hi'
   have HSUM := Lib.hid hi
   have HIH := Lib.hid ih
   have HMM := Lib.hid hM
   have hb0 := bit_test0t (s : Int) i (by omega) (by omega)
   have hn5 : S ≤ 5 := by omega
   clear hS hi hi' ih hy0
   go_enter Tryz.func108, Tryz.ntmps108
   go_wp2_with fail
   refine (HIH.out (i + 1) ((i : Int) + 1) (left : Int) sum left _ a1 n1 c1 _ (by simp) rfl (by have := HSUM.out; omega) hleft hs0 (by simp; omega) HS1.out).mono ?_
   rintro e w2 ⟨rfl, a2, n2, c2, hS2⟩
   have HS2 := Lib.hid hS2
   have cs2 := cell_of_one hS2.hs
   clear hS2 hn fn cx cm0 cw1
   cases hbi : bit (s : Int) i
   ·rw [hbi] at hb0
    have HBI := Lib.hid hbi
    clear hbi
    go_wp2
    refine bodyPost_ret (results_none rfl _ _ _) rfl ?_
    rw [walkF_not _ _ _ _ (by rw [HI.out]; exact HBI.out), HI.out]
    exact ⟨rfl, a2, n2, c2, HS2.out⟩
   ·rw [hbi] at hb0
    have HBI := Lib.hid hbi
    have cm1 : w2.cell? ⟨bm, 1, none⟩ = some (.int .i64 (B : Int)) := by rw [cell_of_row _ _ _ _ _ _ HS2.out.hm]; rfl
    have HZ := Lib.hid (walkF_to S B G s (r := r) (left := left) (sum := sum) (st := st) (by rw [HI.out]; exact HBI.out))
    clear hbi
    go_wp2
    go_loopw [39] (fun j wr => ∃ (k : Nat), k ≤ B ∧ j = .int .i64 (k : Int) ∧ StF w0 S B s a n cap bm bs bb bo br bx bw base (walkTo S B G s r left sum st k) wr) (fun j _ => B - (intOf j).toNat)
    case atStart => exact ⟨0, Nat.zero_le _, rfl, a2, n2, c2, by rw [walkTo_zero, HI.out]; exact HS2.out⟩
    case round =>
     obtain ⟨k, hk, rfl, a3, n3, c3, hS3⟩ := hrel
     have HS3 := Lib.hid hS3
     have cm0 : wr.cell? ⟨bm, 0, none⟩ = some (.int .i64 (S : Int)) := by rw [cell_of_row _ _ _ _ _ _ hS3.hm]; rfl
     have cx := cell_of_one hS3.hx
     by_cases hlt : k < B
     ·have hbt := bit_test (left : Int) (S + k) (by omega) (by omega)
      cases hbl : bit (left : Int) (S + k)
      ·rw [hbl] at hbt
       have HBL := Lib.hid hbl
       clear hbl hS3
       go_wp2
       go_roundw
       case rel => exact ⟨k + 1, by omega, by go_num, a3, n3, c3, by rw [walkTo_succ, HBL.out, if_neg (by simp)]; exact HS3.out⟩
       case measure => simp [intOf]; omega
      ·rw [hbl] at hbt
       have HBL := Lib.hid hbl
       have hord3 := hS3.ord
       have hn3 := hS3.hr.cell (k := i) (by rw [hS3.len]; exact hiS)
       obtain ⟨y3, hy3⟩ : ∃ y, y = (walkTo S B G s r left sum st k).now[i]?.getD 0 := ⟨_, rfl⟩
       rw [← hy3] at hn3
       have fn3 := hS3.hr.free i
       have hS4 := hS3.setNow i (k : Int)
       have HS4 := Lib.hid hS4
       have hiG : i < n := by have := hG.hlen; have := HMM.out.rows; omega
       have hncap := hG.hcap
       have hnmax := hG.hmax
       obtain ⟨gb, goff, ga, gn, gc, hga, hgc0, hgr⟩ := hG.at hiG
       have hgn : k < gn := by have h1 := hgr.hlen; have h2 := HMM.out.row i hiS; omega
       obtain ⟨rb, roff, hra, hrc0⟩ := hgr.at hgn
       have hgk := HMM.out.bd i k
       obtain ⟨y, hy⟩ : ∃ y, y = gain G i k := ⟨_, rfl⟩
       have hrc0 : w0.cell? ⟨rb, roff + k, none⟩ = some (.int .i64 y) := by rw [hy]; exact hrc0
       have hgc := hS4.bel.cellSome hgc0
       have hrc := hS4.bel.cellSome hrc0
       have HGC := Lib.hid hgc0
       have HRC := Lib.hid hrc0
       rw [← hy] at hgk
       have HY := Lib.hid hy
       have hgcap := hgr.hcap
       have hgmax := hgr.hmax
       have cw4 := cell_of_one hS4.hw
       have cm40 : (wr.setCell ⟨br, i, none⟩ (.int .i64 (k : Int))).cell? ⟨bm, 0, none⟩ = some (.int .i64 (S : Int)) := by rw [cell_of_row _ _ _ _ _ _ hS4.hm]; rfl
       have cm42 : (wr.setCell ⟨br, i, none⟩ (.int .i64 (k : Int))).cell? ⟨bm, 2, none⟩ = some (.slice a n cap) := by rw [cell_of_row _ _ _ _ _ _ hS4.hm]; rfl
       subst hga hra
       obtain ⟨w4, hw4⟩ : ∃ w4, w4 = wr.setCell ⟨br, i, none⟩ (.int .i64 (k : Int)) := ⟨_, rfl⟩
       have HW4 := Lib.hid hw4
       rw [← hw4] at hgc hrc cw4 cm40 cm42 HS4
       clear hbl hS3 hS4 hgr hy hy3 hw4 hord3 hgc0 hrc0
       have hk2 : Ext w4 w4.drew := Ext.drew w4
       have ecut := tcut hleft (show S + k < 5 by omega) HBL.out
       obtain ⟨u, hu⟩ : ∃ u : Nat, u = left - 2 ^ (S + k) := ⟨_, rfl⟩
       have hu32 : u < 32 := by rw [hu]; exact Nat.lt_of_le_of_lt (Nat.sub_le _ _) hleft
       rw [← hu] at ecut
       have HU := Lib.hid hu
       have eSk : IntKind.i64.wrap ((S : Int) + (k : Int)) = (S : Int) + (k : Int) := by rw [IntKind.wrap_i64]; omega
       have eI : IntKind.i64.wrap ((i : Int) + 1) = (i : Int) + 1 := by rw [IntKind.wrap_i64]; omega
       have eSum : IntKind.i64.wrap (sum + y) = sum + y := by rw [IntKind.wrap_i64]; omega
       have HPow := Lib.hid (kwrap_powt (S + k) (by omega))
       have HTN := Lib.hid (show ((S : Int) + (k : Int)).toNat = S + k by omega)
       have HCut := Lib.hid ecut
       clear hu ecut
       go_wp2
       rw [← HW4.out]
       go_region_held3 (fun w' => w'.cell? ⟨bw, 0, none⟩ = some (.func (.func 108) #[] (capsT bm bs bb bo bx bw)) ∧ w'.cell? ⟨bm, 0, none⟩ = some (.int .i64 (S : Int)) ∧ w'.cell? ⟨bm, 2, none⟩ = some (.slice (some ⟨gb, goff, none⟩) n cap) ∧ w'.cell? ⟨gb, goff + i, none⟩ = some (.slice (some ⟨rb, roff, none⟩) gn gc) ∧ w'.cell? ⟨rb, roff + k, none⟩ = some (.int .i64 y))
        (first
          | exact ⟨hk2.cellSome cw4, hk2.cellSome cm40, hk2.cellSome cm42, hk2.cellSome hgc, hk2.cellSome hrc⟩
          | exact ⟨cell_of_one HS5.out.hw, by rw [cell_of_row _ _ _ _ _ _ HS5.out.hm]; rfl, by rw [cell_of_row _ _ _ _ _ _ HS5.out.hm]; rfl, HS5.out.bel.cellSome HGC.out, HS5.out.bel.cellSome HRC.out⟩)
        (first
          | (rw [HTN.out, HPow.out, HCut.out]
             have T1 := HIH.out (i + 1) ((i : Int) + 1) (u : Int) (sum + y) u _ a3 n3 c3 _ (by simp) rfl (by have := HSUM.out; omega) hu32 (by omega) (by simp; omega) (HS4.out.ext hk2)
             with_reducible refine T1.mono ?_
             rintro e w5 ⟨rfl, a5, n5, c5, hS5⟩
             have HS5 := Lib.hid hS5
             clear hS5 T1))
       go_wp2
       go_roundw
       case rel => exact ⟨k + 1, by omega, by go_num, a5, n5, c5, by rw [walkTo_succ, HBL.out, if_pos rfl, HI.out, ← HY.out, ← HU.out]; exact HS5.out⟩
       case measure => simp [intOf]; omega
     ·have hkB : k = B := by omega
      subst hkB
      clear hS3
      go_wp2
      go_end0
      rw [HZ.out]
      exact ⟨rfl, a3, n3, c3, HS3.out⟩
end Go.Proofs.YthjjfkeacobikaaGreat
namespace Go.Proofs.YthjjfkeacobikaaGreat
set_option maxRecDepth 100000
open Go.RowKit
set_option maxHeartbeats 4000000 in
theorem i_BestTrades {w : World} {x y s : Int} {a : Option Addr} {n cap : Nat} {G : List (List Int)} (h : IntSS w a n cap G) :
 Calls Tryz.prog 40 #[triple x y a n cap, .int .i64 s] w fun e w' => (∃ v, e = .returned (.tuple #[v, .int .i64 (tradeR x y G s).2, .bool (tradeOk x y G s)]) ∧ OwnI w' w.heap.size v (tradeR x y G s).1) ∧ Ext w w' := by
 obtain ⟨W, hW⟩ : ∃ W, W = (w.alloc (.cells #[.int .i64 x, .int .i64 y, .slice a n cap] 52)).alloc (.cells #[.int .i64 s] 3) := ⟨_, rfl⟩
 have hX : Ext w W := by rw [hW]; exact (Ext.alloc _ _).trans (Ext.alloc _ _)
 have HX := Lib.hid hX
 have HG := Lib.hid h
 have HV := Lib.hid (i_IsValidMarket (x := x) (y := y) ((h.ext hX).ext (Ext.drew W)))
 have hsz : W.heap.size = w.heap.size + 1 + 1 := by rw [hW]; simp
 have hbm : W.heap[w.heap.size]? = some (.cells #[.int .i64 x, .int .i64 y, .slice a n cap] 52 (0, 0)) := by rw [hW, heapA_old _ _ _ (by simp)]; exact heapA_new _ _ _ rfl
 have hbs : W.heap[w.heap.size + 1]? = some (.cells #[.int .i64 s] 3 (0, 0)) := by rw [hW]; exact heapA_new _ _ _ (by simp)
 have c0 : W.cell? ⟨w.heap.size, 0, none⟩ = some (.int .i64 x) := by rw [cell_of_row _ _ _ _ _ _ hbm]; rfl
 have c1 : W.cell? ⟨w.heap.size, 1, none⟩ = some (.int .i64 y) := by rw [cell_of_row _ _ _ _ _ _ hbm]; rfl
 have c2 : W.cell? ⟨w.heap.size, 2, none⟩ = some (.slice a n cap) := by rw [cell_of_row _ _ _ _ _ _ hbm]; rfl
 have cs := cell_of_one hbs
 have HBM := Lib.hid hbm
 have HBS := Lib.hid hbs
 have HSZ := Lib.hid hsz
 have HW := Lib.hid hW
 have hk2 : Ext W W.drew := Ext.drew W
 clear h hX hbm hbs hsz hW
 cases hv : validM x y G
 ·have HN := Lib.hid (show tradeOk x y G s = false by simp [tradeOk, hv])
  rw [hv] at HV
  clear hv
  go_enter Tryz.func40, Tryz.ntmps40
  go_wp2
  rw [← HW.out]
  refine wp_region_held_drew (S := (fun w' => w'.cell? ⟨w.heap.size, 0, none⟩ = some (.int .i64 x) ∧ w'.cell? ⟨w.heap.size, 1, none⟩ = some (.int .i64 y) ∧ w'.cell? ⟨w.heap.size, 2, none⟩ = some (.slice a n cap) ∧ Ext W w')) (by kernel_rfl) ?_ (fun hHeld => ?_)
  ·exact ⟨hk2.cellSome c0, hk2.cellSome c1, hk2.cellSome c2, hk2⟩
  refine tk 0 ?_
  refine rd (i := 1) (h := fun K hK => ?_)
  go_simp
  (go_at_call 36; refine HV.out.mono ?_; rintro e w3 ⟨rfl, hx3⟩; have hk2 := hk2.trans hx3)
  go_wp2_with fail
  refine hK.out _ _ ?_ (fun hHeld => ?_)
  ·exact ⟨hk2.cellSome c0, hk2.cellSome c1, hk2.cellSome c2, hk2⟩
  clear hK K
  try simp only [Act.put, sA, sB, sC]
  refine tk 2 ?_
  refine tk 3 ?_
  refine sk 4 ?_
  refine sk 5 ?_
  refine sk 6 ?_
  refine sk 7 ?_
  refine sk 8 ?_
  refine sk 9 ?_
  refine sk 10 ?_
  refine sk 11 ?_
  refine sk 12 ?_
  refine sk 13 ?_
  refine tk 14 ?_
  refine wpAnyH_done (by kernel_rfl) ?_ _
  go_wp2
  rw [tradeR_not HN.out, HN.out]
  refine bodyPost_ret (v := .tuple #[.slice none 0 0, .int .i64 0, .bool false]) (by simp [results, Tryz.results40, go_sem]) rfl ⟨⟨_, rfl, OwnI.nil _ _⟩, HX.out.trans hk2⟩
 rw [hv] at HV
 obtain ⟨S, B, rfl, rfl, hM⟩ := validM_good hv
 have hsb := hM.sb
 have hcn := cntC_nat (S + B) hsb
 have hN := cN_le (S + B) hsb
 have hcn' : cntC ((S : Int) + (B : Int)) = (cN (S + B) : Int) := by rw [← hcn]; simp
 have HC := Lib.hid hcn'
 have HM := Lib.hid hM
 have eSB : IntKind.i64.wrap ((S : Int) + (B : Int)) = (S : Int) + (B : Int) := by rw [IntKind.wrap_i64]; omega
 have eN : IntKind.i64.wrap ((cN (S + B) : Int) - 1) = (cN (S + B) : Int) - 1 := by rw [IntKind.wrap_i64]; omega
 cases hin : inB s 0 ((cN (S + B) : Int) - 1)
 ·have HIN := Lib.hid hin
  have HN := Lib.hid (show tradeOk (S : Int) (B : Int) G s = false by simp [tradeOk, hv, hcn', hin])
  clear hv hin hcn' hcn hM
  go_enter Tryz.func40, Tryz.ntmps40
  go_wp2
  rw [← HW.out]
  go_region_held3 (fun w' => w'.cell? ⟨w.heap.size, 0, none⟩ = some (.int .i64 (S : Int)) ∧ w'.cell? ⟨w.heap.size, 1, none⟩ = some (.int .i64 (B : Int)) ∧ w'.cell? ⟨w.heap.size, 2, none⟩ = some (.slice a n cap) ∧ w'.cell? ⟨w.heap.size + 1, 0, none⟩ = some (.int .i64 s) ∧ Ext W w')
   (exact ⟨hk2.cellSome c0, hk2.cellSome c1, hk2.cellSome c2, hk2.cellSome cs, hk2⟩)
   (first
     | (go_at_call 36; refine HV.out.mono ?_; rintro e w3 ⟨rfl, hx3⟩; have hk2 := hk2.trans hx3)
     | (go_at_call 107; refine (i_CountCoalitions _ _).mono ?_; rw [HC.out]; rintro e w' ⟨rfl, rfl⟩)
     | (go_at_call 80; refine (i_within _ _ _ _).mono ?_; rw [HIN.out]; rintro e w' ⟨rfl, rfl⟩))
  go_wp2
  rw [tradeR_not HN.out, HN.out]
  refine bodyPost_ret (v := .tuple #[.slice none 0 0, .int .i64 0, .bool false]) (by simp [results, Tryz.results40, go_sem]) rfl ⟨⟨_, rfl, OwnI.nil _ _⟩, HX.out.trans hk2⟩
 ·have HIN := Lib.hid hin
  have HOK := Lib.hid (show tradeOk (S : Int) (B : Int) G s = true by simp [tradeOk, hv, hcn', hin])
  obtain ⟨t, rfl⟩ : ∃ t : Nat, s = t := ⟨s.toNat, by unfold inB at hin; simp at hin; omega⟩
  have ht : t < 32 := by unfold inB at hin; simp at hin; omega
  have hmk := mk_ints S (by omega)
  clear hv hin hcn' hcn hM hN
  go_enter Tryz.func40, Tryz.ntmps40
  go_wp2
  rw [← HW.out]
  go_region_held3 (fun w' => w'.cell? ⟨w.heap.size, 0, none⟩ = some (.int .i64 (S : Int)) ∧ w'.cell? ⟨w.heap.size, 1, none⟩ = some (.int .i64 (B : Int)) ∧ w'.cell? ⟨w.heap.size, 2, none⟩ = some (.slice a n cap) ∧ w'.cell? ⟨w.heap.size + 1, 0, none⟩ = some (.int .i64 (t : Int)) ∧ Ext W w')
   (exact ⟨hk2.cellSome c0, hk2.cellSome c1, hk2.cellSome c2, hk2.cellSome cs, hk2⟩)
   (first
     | (go_at_call 36; refine HV.out.mono ?_; rintro e w3 ⟨rfl, hx3⟩; have hk2 := hk2.trans hx3)
     | (go_at_call 107; refine (i_CountCoalitions _ _).mono ?_; rw [HC.out]; rintro e w' ⟨rfl, rfl⟩)
     | (go_at_call 80; refine (i_within _ _ _ _).mono ?_; rw [HIN.out]; rintro e w' ⟨rfl, rfl⟩))
  have d0 := hk2.cellSome c0
  have ds := hk2.cellSome cs
  have hlt3 : w.heap.size + 1 < w3.heap.size := World.block_lt_of_cell? _ _ ds
  have hltm : w.heap.size < w3.heap.size := by omega
  have X3 := Lib.hid (HX.out.trans hk2)
  have HM3 := Lib.hid ((hk2.block _ (by have := HSZ.out; omega)).trans HBM.out)
  have HS3 := Lib.hid ((hk2.block _ (by have := HSZ.out; omega)).trans HBS.out)
  clear hk2 c0 c1 c2 cs
  have hS : StT w (((((w3.alloc (.cells #[.slice none 0 0] 24)).alloc (.cells #[.int .i64 (-1)] 3)).alloc (.cells (intCells (List.replicate S 0)) 3)).alloc (.cells #[.slice (some ⟨w3.heap.size + 1 + 1, 0, none⟩) S S] 24)).alloc
   (.cells #[.func (.func 108) #[] (capsT w.heap.size (w.heap.size + 1) w3.heap.size (w3.heap.size + 1) (w3.heap.size + 1 + 1 + 1) (w3.heap.size + 1 + 1 + 1 + 1))] 129))
   S B t a n cap w.heap.size (w.heap.size + 1) w3.heap.size (w3.heap.size + 1) (w3.heap.size + 1 + 1) (w3.heap.size + 1 + 1 + 1) (w3.heap.size + 1 + 1 + 1 + 1) (w3.heap.size + 1 + 1 + 1 + 1 + 1) none 0 0 ⟨List.replicate S 0, [], -1⟩ := by
   have hx : Ext w3 (((((w3.alloc (.cells #[.slice none 0 0] 24)).alloc (.cells #[.int .i64 (-1)] 3)).alloc (.cells (intCells (List.replicate S 0)) 3)).alloc (.cells #[.slice (some ⟨w3.heap.size + 1 + 1, 0, none⟩) S S] 24)).alloc
    (.cells #[.func (.func 108) #[] (capsT w.heap.size (w.heap.size + 1) w3.heap.size (w3.heap.size + 1) (w3.heap.size + 1 + 1 + 1) (w3.heap.size + 1 + 1 + 1 + 1))] 129)) :=
    (((((Ext.alloc _ _).trans (Ext.alloc _ _)).trans (Ext.alloc _ _)).trans (Ext.alloc _ _)).trans (Ext.alloc _ _))
   refine ⟨by simp; omega, ?_, ?_, ?_, ?_, ?_, ?_, ?_, OwnI.nil _ _, by simp, X3.out.trans hx⟩
   ·exact (hx.block _ (by omega)).trans HM3.out
   ·exact (hx.block _ (by omega)).trans HS3.out
   ·repeat (first | exact heapA_new _ _ _ (by simp) | rw [heapA_old _ _ _ (by simp; omega)] | rw [heapA_old _ _ _ (by simp)])
   ·repeat (first | exact heapA_new _ _ _ (by simp) | rw [heapA_old _ _ _ (by simp; omega)] | rw [heapA_old _ _ _ (by simp)])
   ·unfold Row
    repeat (first | exact heapA_new _ _ _ (by simp) | rw [heapA_old _ _ _ (by simp; omega)] | rw [heapA_old _ _ _ (by simp)])
   ·repeat (first | exact heapA_new _ _ _ (by simp) | rw [heapA_old _ _ _ (by simp; omega)] | rw [heapA_old _ _ _ (by simp)])
   ·repeat (first | exact heapA_new _ _ _ (by simp) | rw [heapA_old _ _ _ (by simp; omega)] | rw [heapA_old _ _ _ (by simp)])
  have T1 := Lib.hid (i_walk HM.out ht HG.out _ _ _ _ _ _ _ _ S 0 0 (t : Int) 0 t _ _ _ _ _ rfl rfl (by omega) ht (by omega) (by simp) hS)
  have hcf : ∀ (args : Array Value) (w : World), (callFunc 108 args).run Tryz.prog w = .ok (.enter 108 args) w := go_BestTrades1
  have csW := cell_of_one hS.hs
  have hq1 : w.heap.size ≠ w3.heap.size := by omega
  have hq2 : w.heap.size ≠ w3.heap.size + 1 := by omega
  have hq3 : w.heap.size ≠ w3.heap.size + 1 + 1 := by omega
  have hq4 : w.heap.size ≠ w3.heap.size + 1 + 1 + 1 := by omega
  have hq5 : w.heap.size + 1 ≠ w3.heap.size := by omega
  have hq6 : w.heap.size < w3.heap.size + 1 + 1 + 1 := by omega
  have hq7 : w.heap.size < w3.heap.size + 1 + 1 := by omega
  have hq8 : w.heap.size < w3.heap.size + 1 := by omega
  clear hS
  go_wp2_with fail
  refine T1.out.mono ?_
  rintro e w7 ⟨rfl, a5, n5, c5, hS7⟩
  have HS7 := Lib.hid hS7
  have cb := cell_of_one hS7.hb
  have co := cell_of_one hS7.ho
  have hF := walkF_best S B G t hsb S t [] 0 ⟨List.replicate S 0, [], -1⟩ (Nat.le_refl _) (by simp) ht (fun j _ => by simp [hasI])
  have hbd := bestF_bd S B G t HM.out.bd S []
  unfold Found at hF
  obtain ⟨f1, f2, f3⟩ := hF
  simp only [Nat.sub_self, List.take_zero, List.nil_append, Int.zero_add] at f3
  have f4 : (walkF S B G t S t 0 ⟨List.replicate S 0, [], -1⟩).best = (bestF S B G t S []).1 ∧ (walkF S B G t S t 0 ⟨List.replicate S 0, [], -1⟩).most = (bestF S B G t S []).2 := by
   rcases f3 with ⟨_, g2, g3⟩ | ⟨g1, _⟩
   ·exact ⟨g2, g3⟩
   ·omega
  have HF := Lib.hid f4
  obtain ⟨mo, hmo⟩ : ∃ m, m = (walkF S B G t S t 0 ⟨List.replicate S 0, [], -1⟩).most := ⟨_, rfl⟩
  rw [← hmo] at co
  have HMO := Lib.hid hmo
  clear hS7 f1 f2 f3 f4 hbd hmo hmk hcf
  go_wp2
  go_quiet (fail)
  go_wp2
  rw [HOK.out, tradeR_ok HOK.out]
  refine bodyPost_ret (v := .tuple #[.slice a5 n5 c5, .int .i64 mo, .bool true]) (by simp [results, Tryz.results40, go_sem]) rfl ⟨⟨_, by rw [← HF.out.2, ← HMO.out], ?_⟩, HS7.out.bel.trans (Drew.ext ⟨_, rfl⟩)⟩
  rw [← HF.out.1]
  exact (HS7.out.own.ext (Drew.ext ⟨_, rfl⟩)).mono (by omega)
def asgF (S B : Nat) (G : List (List Int)) (s : Nat) : Int := (bestF S B G s S []).2
def asgP (x y : Int) (G : List (List Int)) : Nat := if validM x y G = true then (x + y).toNat else 0
def asgL (x y : Int) (G : List (List Int)) : List Int := if validM x y G = true then rowF (asgF x.toNat y.toNat G) (cN (x + y).toNat) else []
theorem bestF_zero (S B : Nat) (G : List (List Int)) : ∀ (r : Nat) (taken : List Int), (bestF S B G 0 r taken).2 = 0
 | 0, _ => rfl
 | r + 1, taken => by
   rw [bestF_succ]
   have hno : ∀ k, bestTo S B G 0 r taken k = (-1 :: (bestF S B G 0 r taken).1, (bestF S B G 0 r taken).2) := by
    intro k
    induction k with
    | zero => rfl
    | succ k ih => rw [bestTo_succ, if_neg (by simp [freeJ, bit]), ih]
   rw [hno]
   exact bestF_zero S B G r taken
theorem asgF_bd {S B : Nat} {G : List (List Int)} (hM : GoodM S B G) (s : Nat) : -500 ≤ asgF S B G s ∧ asgF S B G s ≤ 500 := by
 have := bestF_bd S B G s hM.bd S []
 have := hM.sb
 unfold asgF
 omega
theorem trade_ok {S B s : Nat} {G : List (List Int)} (hv : validM (S : Int) (B : Int) G = true) (hsb : S + B ≤ 5) (hs : s < cN (S + B)) : tradeOk (S : Int) (B : Int) G (s : Int) = true := by
 have hcn := cntC_nat (S + B) hsb
 have hcn' : cntC ((S : Int) + (B : Int)) = (cN (S + B) : Int) := by rw [← hcn]; simp
 unfold tradeOk inB
 rw [hv, hcn']
 simp
 omega
theorem go_AssignmentGame1 : IsGo Tryz.prog 98 := isGo Tryz.func98 (by kernel_rfl) (by kernel_rfl)
set_option maxHeartbeats 1000000 in
theorem i_AssignmentGame1 {w : World} {S B s bm : Nat} {a : Option Addr} {n cap : Nat} {G : List (List Int)} (h : IntSS w a n cap G) (hm : w.heap[bm]? = some (.cells #[.int .i64 (S : Int), .int .i64 (B : Int), .slice a n cap] 52 (0, 0)))
 (hv : validM (S : Int) (B : Int) G = true) (hsb : S + B ≤ 5) (hs : s < cN (S + B)) :
 Calls Tryz.prog 98 #[.int .i64 (s : Int), .pointer (some ⟨bm, 0, none⟩)] w fun e w' => e = .returned (.int .i64 (asgF S B G s)) ∧ Ext w w' := by
 have HB := Lib.hid (i_BestTrades (x := (S : Int)) (y := (B : Int)) (s := (s : Int)) h)
 have HR := Lib.hid (show (tradeR (S : Int) (B : Int) G (s : Int)).2 = asgF S B G s by rw [tradeR_ok (trade_ok hv hsb hs)]; rfl)
 have c0 : w.cell? ⟨bm, 0, none⟩ = some (.int .i64 (S : Int)) := by rw [cell_of_row _ _ _ _ _ _ hm]; rfl
 have c1 : w.cell? ⟨bm, 1, none⟩ = some (.int .i64 (B : Int)) := by rw [cell_of_row _ _ _ _ _ _ hm]; rfl
 have c2 : w.cell? ⟨bm, 2, none⟩ = some (.slice a n cap) := by rw [cell_of_row _ _ _ _ _ _ hm]; rfl
 clear h hm hv hs
 go_enter Tryz.func98, Tryz.ntmps98
 go_wp2_with fail
 refine HB.out.mono ?_
 rw [HR.out]
 rintro e w1 ⟨⟨v, rfl, ho⟩, hx⟩
 go_wp2
 go_ret
 exact ⟨rfl, hx⟩
set_option maxHeartbeats 4000000 in
theorem i_AssignmentGame {w : World} {x y : Int} {a : Option Addr} {n cap : Nat} {G : List (List Int)} (h : IntSS w a n cap G) :
 Calls Tryz.prog 33 #[triple x y a n cap] w fun e w' => GameV w' w.heap.size e (asgP x y G) (asgL x y G) (validM x y G) ∧ Ext w w' := by
 have HX := Lib.hid ((Ext.alloc w (.cells #[.int .i64 x, .int .i64 y, .slice a n cap] 52)).trans (Ext.alloc _ (.cells #[.int .i64 0, .slice none 0 0] 29)))
 have HV := Lib.hid (i_IsValidMarket (x := x) (y := y) (h.ext HX.out))
 have HI := Lib.hid (h.ext HX.out)
 clear h
 cases hv : validM x y G
 ·rw [hv] at HV
  have HVV := Lib.hid hv
  clear hv
  go_enter Tryz.func33, Tryz.ntmps33
  go_wp2_with fail
  refine HV.out.mono ?_
  rintro e w1 ⟨rfl, hx⟩
  have r0 : w1.cell? ⟨w.heap.size + 1, 0, none⟩ = some (.int .i64 0) := hx.cellSome (by simp)
  have r1 : w1.cell? ⟨w.heap.size + 1, 1, none⟩ = some (.slice none 0 0) := hx.cellSome (by simp)
  have f0 : w1.frozen? ⟨w.heap.size + 1, 0, none⟩ = false := (hx.frozens _ _ (by simp)).trans (by simp)
  have f1 : w1.frozen? ⟨w.heap.size + 1, 1, none⟩ = false := (hx.frozens _ _ (by simp)).trans (by simp)
  have HX1 := Lib.hid (HX.out.trans hx)
  clear hx
  go_wp2
  refine bodyPost_ret (v := .tuple #[.agg #[.int .i64 0, .slice none 0 0], .bool false]) (by simp [results, Tryz.results33, go_sem, r0, r1]) rfl ⟨⟨.slice none 0 0, ?_, ?_⟩, ?_⟩
  ·unfold asgP; rw [HVV.out]; rfl
  ·unfold asgL; rw [HVV.out]; exact ⟨rfl, .inl ⟨rfl, rfl⟩⟩
  ·exact (HX1.out.setCell (by simp) _).setCell (by simp) _
 ·rw [hv] at HV
  obtain ⟨S, B, rfl, rfl, hM⟩ := validM_good hv
  have hsb := hM.sb
  have hN := cN_le (S + B) hsb
  have h1 : 1 ≤ S + B := by have := hM.s1; omega
  have HVV := Lib.hid hv
  have HM := Lib.hid hM
  have hSB : (S : Int) + (B : Int) = ((S + B : Nat) : Int) := by simp
  have HSB := Lib.hid hSB
  clear hv hM hSB
  go_enter Tryz.func33, Tryz.ntmps33
  go_wp2_with fail
  refine HV.out.mono ?_
  rintro e w1 ⟨rfl, hx⟩
  have c0 : w1.cell? ⟨w.heap.size, 0, none⟩ = some (.int .i64 (S : Int)) := hx.cellSome (by simp)
  have c1 : w1.cell? ⟨w.heap.size, 1, none⟩ = some (.int .i64 (B : Int)) := hx.cellSome (by simp)
  have HB := Lib.hid (show w1.heap[w.heap.size]? = some (.cells #[.int .i64 (S : Int), .int .i64 (B : Int), .slice a n cap] 52 (0, 0)) from (hx.block _ (by simp; omega)).trans (by rw [heapA_old _ _ _ (by simp)]; exact heapA_new _ _ _ rfl))
  have HX1 := Lib.hid hx
  have HI1 := Lib.hid (HI.out.ext hx)
  clear hx
  have hs1 : w.heap.size < w1.heap.size := World.block_lt_of_cell? _ _ c0
  have HT : Hid (Tells Tryz.prog w1 98 #[.pointer (some ⟨w.heap.size, 0, none⟩)] (cN (S + B)) (asgF S B G)) := Lib.hid fun s w2 hs k =>
   i_AssignmentGame1 (HI1.out.ext k) ((k.block _ (lt_of_block HB.out)).trans HB.out) HVV.out hsb hs
  have HMA := Lib.hid (i_made h1 hsb go_AssignmentGame1 HT.out (bestF_zero S B G S []) (fun s _ => asgF_bd HM.out s))
  rw [← HSB.out] at HMA
  go_wp2_with fail
  refine HMA.out.mono ?_
  rintro e w2 ⟨⟨v, rfl, ho⟩, hx⟩
  obtain ⟨a2, n2, c2, rfl, HN2⟩ := ho.var
  have HX2 := Lib.hid (HX1.out.trans hx)
  have r0 : w2.cell? ⟨w.heap.size + 1, 0, none⟩ = some (.int .i64 0) := HX2.out.cellSome (by simp)
  have r1 : w2.cell? ⟨w.heap.size + 1, 1, none⟩ = some (.slice none 0 0) := HX2.out.cellSome (by simp)
  have f0 : w2.frozen? ⟨w.heap.size + 1, 0, none⟩ = false := (HX2.out.frozens _ _ (by simp)).trans (by simp)
  have f1 : w2.frozen? ⟨w.heap.size + 1, 1, none⟩ = false := (HX2.out.frozens _ _ (by simp)).trans (by simp)
  have HO := Lib.hid ho
  have hsz1 := HX1.out.size
  simp at hsz1
  clear ho hx
  go_wp2
  have hp : asgP (S : Int) (B : Int) G = S + B := by unfold asgP; rw [HVV.out, if_pos rfl]; omega
  have hl : asgL (S : Int) (B : Int) G = rowF (asgF S B G) (cN (S + B)) := by
   unfold asgL; rw [HVV.out, if_pos rfl]
   have e : ((S : Int) + (B : Int)).toNat = S + B := by omega
   rw [e]; rfl
  rw [hp, hl]
  refine bodyPost_ret (v := .tuple #[.agg #[.int .i64 ((S + B : Nat) : Int), .slice a2 n2 c2], .bool true]) (by simp [results, Tryz.results33, go_sem, r0, r1]) rfl ⟨⟨.slice a2 n2 c2, rfl, ?_⟩, ?_⟩
  ·refine HO.out.mono (by omega) |>.keep fun j hj => ?_
   have := (HO.out.lt j hj).1
   rw [heap_setCell_other _ _ _ _ (by simp; omega), heap_setCell_other _ _ _ _ (by simp; omega)]
  ·exact ((HX.out.trans HX2.out).setCell (by simp) _).setCell (by simp) _
set_option maxHeartbeats 4000000 in
theorem s_AssignmentGame {w : World} {x y : Int} {a : Option Addr} {n cap : Nat} {G : List (List Int)} (h : IntSS w a n cap G) :
 Calls Tryz.prog 34 #[triple x y a n cap] w fun e w' => GameV w' w.heap.size e (asgP x y G) (asgL x y G) (validM x y G) ∧ Ext w w' := by
 have HX := Lib.hid ((Ext.alloc w (.cells #[.int .i64 x, .int .i64 y, .slice a n cap] 52)).trans (Ext.alloc _ (.cells #[.int .i64 0, .slice none 0 0] 29)))
 have HV := Lib.hid (s_IsValidMarket (x := x) (y := y) (h.ext HX.out))
 have HI := Lib.hid (h.ext HX.out)
 clear h
 cases hv : validM x y G
 ·rw [hv] at HV
  have HVV := Lib.hid hv
  clear hv
  go_enter Tryz.func34, Tryz.ntmps34
  go_wp2_with fail
  refine HV.out.mono ?_
  rintro e w1 ⟨rfl, hx⟩
  have r0 : w1.cell? ⟨w.heap.size + 1, 0, none⟩ = some (.int .i64 0) := hx.cellSome (by simp)
  have r1 : w1.cell? ⟨w.heap.size + 1, 1, none⟩ = some (.slice none 0 0) := hx.cellSome (by simp)
  have f0 : w1.frozen? ⟨w.heap.size + 1, 0, none⟩ = false := (hx.frozens _ _ (by simp)).trans (by simp)
  have f1 : w1.frozen? ⟨w.heap.size + 1, 1, none⟩ = false := (hx.frozens _ _ (by simp)).trans (by simp)
  have HX1 := Lib.hid (HX.out.trans hx)
  clear hx
  go_wp2
  refine bodyPost_ret (v := .tuple #[.agg #[.int .i64 0, .slice none 0 0], .bool false]) (by simp [results, Tryz.results34, go_sem, r0, r1]) rfl ⟨⟨.slice none 0 0, ?_, ?_⟩, ?_⟩
  ·unfold asgP; rw [HVV.out]; rfl
  ·unfold asgL; rw [HVV.out]; exact ⟨rfl, .inl ⟨rfl, rfl⟩⟩
  ·exact (HX1.out.setCell (by simp) _).setCell (by simp) _
 ·rw [hv] at HV
  obtain ⟨S, B, rfl, rfl, hM⟩ := validM_good hv
  have hsb := hM.sb
  have hN := cN_le (S + B) hsb
  have HVV := Lib.hid hv
  have HM := Lib.hid hM
  have hcn := cntC_nat (S + B) hsb
  have HC := Lib.hid (show cntC ((S : Int) + (B : Int)) = (cN (S + B) : Int) by rw [← hcn]; simp)
  clear hv hM hcn
  go_enter Tryz.func34, Tryz.ntmps34
  go_wp2_with fail
  refine HV.out.mono ?_
  rintro e w1 ⟨rfl, hx⟩
  have c0 : w1.cell? ⟨w.heap.size, 0, none⟩ = some (.int .i64 (S : Int)) := hx.cellSome (by simp)
  have c1 : w1.cell? ⟨w.heap.size, 1, none⟩ = some (.int .i64 (B : Int)) := hx.cellSome (by simp)
  have hs1 : w.heap.size < w1.heap.size := World.block_lt_of_cell? _ _ c0
  have hs2 : w.heap.size + 1 < w1.heap.size := by have := hx.size; simp at this; omega
  have HX1 := Lib.hid hx
  have HI1 := Lib.hid (HI.out.ext hx)
  clear hx
  go_wp2_with (first | (go_at_call 73; refine (s_CountCoalitions _ _).mono ?_; rw [HC.out]; rintro e w' ⟨rfl, rfl⟩))
  go_loopw [6] (fun i wr => ∃ (k : Nat) (a1 : Option Addr) (n1 c1 : Nat), k ≤ cN (S + B) ∧ i = .int .i64 (k : Int) ∧ Hid (OwnI wr (w1.heap.size + 1) (.slice a1 n1 c1) (rowF (asgF S B G) k)) ∧ Hid (wr.heap[w1.heap.size]? = some (.cells #[.int .i64 ((S : Int) + (B : Int)), .slice a1 n1 c1] 29 (0, 0))) ∧ Hid (Ext w1 wr)) (fun i _ => cN (S + B) - (intOf i).toNat)
  case atStart =>
   refine ⟨0, none, 0, 0, Nat.zero_le _, rfl, Lib.hid (by unfold rowF; exact ⟨rfl, .inl ⟨rfl, rfl⟩⟩), Lib.hid ?_, Lib.hid ?_⟩
   ·exact heapA_new _ _ _ (by simp)
   ·exact Ext.alloc _ _
  case round =>
   obtain ⟨k, a1, n1, p1, hk, rfl, HO, HB, HX2⟩ := hrel
   have hsz := lt_of_block HB.out
   have c0 : wr.cell? ⟨w.heap.size, 0, none⟩ = some (.int .i64 (S : Int)) := (HX1.out.trans HX2.out).cellSome (by simp)
   have c1' : wr.cell? ⟨w.heap.size, 1, none⟩ = some (.int .i64 (B : Int)) := (HX1.out.trans HX2.out).cellSome (by simp)
   have c2' : wr.cell? ⟨w.heap.size, 2, none⟩ = some (.slice a n cap) := (HX1.out.trans HX2.out).cellSome (by simp)
   have hwr : w.heap.size < wr.heap.size := by omega
   by_cases hlt : k < cN (S + B)
   ·have HIr := Lib.hid ((HI1.out.ext HX2.out).ext (Ext.alloc _ (.cells #[] 3)))
    have HF := Lib.hid (show (bestF S B G k S []).2 = asgF S B G k from rfl)
    go_wp2_with (first
     | (go_at_call 100; refine (s_l19Best HM.out (show k < 32 by omega) S 0 0 rfl (by omega) _ a n cap _ 0 0 [] HIr.out (OwnI.made' wr 0 _ rfl (by omega)).ints (by simp)).mono ?_; rw [HF.out]; rintro e w4 ⟨⟨v4, rfl, ho4⟩, hx4⟩; have X4 := Lib.hid ((Ext.alloc wr (.cells #[] 3)).trans hx4); have HO4 := Lib.hid (HO.out.ext X4.out); have HB4 := Lib.hid ((X4.out.block _ hsz).trans HB.out); have hg1 := two_cell1 HB4.out; have hsz4 := lt_of_block HB4.out; clear ho4 hx4)
     | (at_builtin; refine append_ints rfl _ _ rfl (w1.heap.size + 1) (.slice a1 n1 p1) _ rfl (HO4.out.ext (Ext.alloc _ _)) _ 1 _ [asgF S B G k] rfl (Ints.one' _ _ _ _ rfl) (by rw [rowF_len]; omega) (by simp; omega) ?_; intro v3 w5 ho3 hg3 hn3; obtain ⟨a3, n3, c3, rfl, HN3⟩ := ho3.var; have HO3 := Lib.hid ho3; have HX3 := Lib.hid (ext_grown ((HX2.out.trans X4.out).trans (Ext.alloc _ _)) hg3 (fun j hj => by have := (HO4.out.lt j hj).1; omega)); have HB3 := Lib.hid ((hg3.block _ (by simp; omega) (fun e => by have := (HO4.out.lt _ e.symm).1; omega)).trans (((Ext.alloc w4 _).block _ hsz4).trans HB4.out)); have cg3 := two_cell1 HB3.out; have fg3 := frozen_of_row w5 w1.heap.size 1 _ _ HB3.out; clear ho3 hg3 hn3))
    go_roundw
    case rel =>
     refine ⟨k + 1, a3, n3, c3, by omega, by go_num, Lib.hid ?_, Lib.hid (two_set HB3.out), Lib.hid (HX3.out.setCell (by simp) _)⟩
     rw [rowF_succ]
     exact HO3.out.keep fun j hj => heap_setCell_other _ _ _ _ (by have := (HO3.out.lt j hj).1; simp; omega)
    case measure => simp [intOf]; omega
   ·have hkn : k = cN (S + B) := by omega
    subst hkn
    have hg0 := two_cell0 HB.out
    have hg1 := two_cell1 HB.out
    have r0 : wr.cell? ⟨w.heap.size + 1, 0, none⟩ = some (.int .i64 0) := (HX1.out.trans HX2.out).cellSome (by simp)
    have r1 : wr.cell? ⟨w.heap.size + 1, 1, none⟩ = some (.slice none 0 0) := (HX1.out.trans HX2.out).cellSome (by simp)
    have f0 : wr.frozen? ⟨w.heap.size + 1, 0, none⟩ = false := ((HX1.out.trans HX2.out).frozens _ _ (by simp)).trans (by simp)
    have f1 : wr.frozen? ⟨w.heap.size + 1, 1, none⟩ = false := ((HX1.out.trans HX2.out).frozens _ _ (by simp)).trans (by simp)
    go_wp2
    have hp : asgP (S : Int) (B : Int) G = S + B := by unfold asgP; rw [HVV.out, if_pos rfl]; omega
    have hl : asgL (S : Int) (B : Int) G = rowF (asgF S B G) (cN (S + B)) := by
     unfold asgL; rw [HVV.out, if_pos rfl]
     have e : ((S : Int) + (B : Int)).toNat = S + B := by omega
     rw [e]; rfl
    rw [hp, hl]
    refine bodyPost_ret (v := .tuple #[.agg #[.int .i64 ((S : Int) + (B : Int)), .slice a1 n1 p1], .bool true]) (by simp [results, Tryz.results34, go_sem, r0, r1]) rfl ⟨⟨.slice a1 n1 p1, by simp, ?_⟩, ?_⟩
    ·refine HO.out.mono (by omega) |>.keep fun j hj => ?_
     have := (HO.out.lt j hj).1
     rw [heap_setCell_other _ _ _ _ (by simp; omega), heap_setCell_other _ _ _ _ (by simp; omega)]
    ·exact ((HX.out.trans (HX1.out.trans HX2.out)).setCell (by simp) _).setCell (by simp) _
end Go.Proofs.YthjjfkeacobikaaGreat
