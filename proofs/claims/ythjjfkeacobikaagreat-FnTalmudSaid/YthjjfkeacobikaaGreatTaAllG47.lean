import Derived.Test.YthjjfkeacobikaaGreatTaAllG17
import Derived.Test.YthjjfkeacobikaaGreatTaAllG35
import Derived.OwnWalk
set_option linter.unusedVariables false
set_option linter.unusedSimpArgs false
namespace Go.Proofs.YthjjfkeacobikaaGreat
set_option maxRecDepth 100000
open Go.RowKit
def noneF (V : List Int) (a m : Nat) : Bool := (List.range m).all fun b => !convF V a b
theorem noneF_succ (V : List Int) (a m : Nat) : noneF V a (m + 1) = (noneF V a m && !convF V a m) := by unfold noneF; rw [List.range_succ, List.all_append]; simp
def nonF (V : List Int) (m : Nat) : Bool := (List.range m).all fun a => noneF V a V.length
theorem nonF_succ (V : List Int) (m : Nat) : nonF V (m + 1) = (nonF V m && noneF V m V.length) := by unfold nonF; rw [List.range_succ, List.all_append]; simp
theorem convOk_eq (p : Int) (V : List Int) : convOk p V = (gameOk p V && nonF V V.length) := rfl
theorem noneF_bad {V : List Int} {a b m : Nat} (h : convF V a b = true) (hb : b < m) : noneF V a m = false := by
 rw [Bool.eq_false_iff]
 intro hall
 have := List.all_eq_true.1 hall b (List.mem_range.2 hb)
 rw [h] at this
 cases this
theorem nonF_bad {V : List Int} {a m : Nat} (h : noneF V a V.length = false) (ha : a < m) : nonF V m = false := by
 rw [Bool.eq_false_iff]
 intro hall
 have := List.all_eq_true.1 hall a (List.mem_range.2 ha)
 rw [h] at this
 cases this
theorem ret_trip {u v : Value} {a b : Bool} (h : a = b) : Ending.returned (.tuple #[u, v, .bool a]) = .returned (.tuple #[u, v, .bool b]) := by rw [h]
set_option maxHeartbeats 8000000 in
theorem s_l10Fault {w : World} {p : Int} {a : Option Addr} {n cap : Nat} {V : List Int} (h : Ints w a n cap V) :
 Calls Tryz.prog 189 #[pair p a n cap, .int .i64 3] w fun e w' => (∃ (x y : Int), e = .returned (.tuple #[.int .i64 x, .int .i64 y, .bool (gameOk p V && !nonF V V.length)])) ∧ Ext w w' := by
 obtain ⟨W, hW⟩ : ∃ W, W = w.alloc (.cells #[.int .i64 p, .slice a n cap] 29) := ⟨_, rfl⟩
 have hX : Ext w W := by rw [hW]; exact Ext.alloc _ _
 have k0 : W.cell? ⟨w.heap.size, 0, none⟩ = some (.int .i64 p) := by rw [hW]; simp
 have k1 : W.cell? ⟨w.heap.size, 1, none⟩ = some (.slice a n cap) := by rw [hW]; simp
 have HI := Lib.hid (h.ext hX)
 have HX := Lib.hid hX
 have HL := Lib.hid h.hlen
 have hcap := h.hcap
 have hmax := h.hmax
 have HV := Lib.hid (fun (w' : World) (hx : Ext W w') => s_IsValidGame (p := p) (HI.out.ext hx))
 obtain ⟨z, hz⟩ : ∃ z, z = (gameOk p V && !nonF V V.length) := ⟨_, rfl⟩
 rw [← hz]
 have HZ := Lib.hid hz
 clear hz
 clear h hX
 go_enter Tryz.func189, Tryz.ntmps189
 go_upto_region 2 with fail
 rw [← hW]
 clear hW
 cases hg : gameOk p V
 ·rw [hg] at HV HZ
  clear hg
  by_cases hn0 : 0 < n
  ·go_wp2_with fail
   go_loopg [8] 1 (fun gk aa wr => aa = .int .i64 0 ∧ wr = W)
   case atStart => exact ⟨rfl, rfl⟩
   case round =>
    obtain ⟨rfl, rfl⟩ := hrel
    go_wp2_with fail
    refine (HV.out _ (Ext.refl _)).mono ?_
    rintro e w1 ⟨rfl, hx1⟩
    have X1 := Lib.hid hx1
    clear hx1
    go_wp2_with fail
    go_ret3
    exact ⟨⟨_, _, ret_trip (by rw [HZ.out]; rfl)⟩, HX.out.trans X1.out⟩
  ·have hn : n = 0 := by omega
   subst hn
   go_wp2_with fail
   go_loopg [8] 1 (fun gk aa wr => aa = .int .i64 0 ∧ wr = W)
   case atStart => exact ⟨rfl, rfl⟩
   case round =>
    obtain ⟨rfl, rfl⟩ := hrel
    go_wp2_with fail
    go_ret3
    exact ⟨⟨_, _, ret_trip (by rw [HZ.out]; rfl)⟩, HX.out⟩
 ·rw [hg] at HV HZ
  obtain ⟨q, hpq, hq1, hq5, hVl, _, hVb⟩ := gameOk_len hg
  have hc := cN_le q hq5
  have hnq : n = cN q := by have := HL.out; omega
  have hn32 : n ≤ 32 := by omega
  have HVB := Lib.hid (fun i => getD_bd hVb i)
  have HOR := Lib.hid (fun (x y : Nat) (hx : x < n) (hy : y < n) => show x ||| y < n by
   rw [hnq] at hx hy ⊢; exact Nat.or_lt_two_pow hx hy)
  have HAND := Lib.hid (fun (x y : Nat) (hx : x < n) => show x &&& y < n from Nat.lt_of_le_of_lt Nat.and_le_left hx)
  have HCEL := Lib.hid (fun (w' : World) (hx : Ext W w') => (HI.out.ext hx).cell)
  clear hg hpq hVl hVb hnq
  go_wp2_with fail
  go_loopg [8] n (fun gk aa wr => ∃ a : Nat, Hid (gk + a = n) ∧ aa = .int .i64 (a : Int) ∧ Hid (nonF V a = true) ∧ Hid (Ext W wr))
  case atStart => exact ⟨0, Lib.hid (by omega), rfl, Lib.hid rfl, Lib.hid (Ext.refl _)⟩
  case round =>
   obtain ⟨g1, h_g1⟩ : ∃ x, x = gk := ⟨_, rfl⟩
   subst h_g1
   obtain ⟨wr1, h_wr1⟩ : ∃ x, x = wr := ⟨_, rfl⟩
   subst h_wr1
   obtain ⟨a, HA, rfl, HNF, XR⟩ := hrel
   by_cases hlt : a < n
   ·have p0 := XR.out.cellSome k0
    have p1 := XR.out.cellSome k1
    go_wp2_with fail
    refine (HV.out _ XR.out).mono ?_
    rintro e w1 ⟨rfl, hx1⟩
    have X1 := Lib.hid (XR.out.trans hx1)
    clear hx1
    go_wp2_with fail
    go_loopg [9] n (fun gk bb wr => ∃ b : Nat, Hid (gk + b = n) ∧ bb = .int .i64 (b : Int) ∧ Hid (noneF V a b = true) ∧ Hid (Ext W wr))
    case atStart => exact ⟨0, Lib.hid (by omega), rfl, Lib.hid rfl, X1⟩
    case round =>
     obtain ⟨g2, h_g2⟩ : ∃ x, x = gk := ⟨_, rfl⟩
     subst h_g2
     obtain ⟨wr2, h_wr2⟩ : ∃ x, x = wr := ⟨_, rfl⟩
     subst h_wr2
     obtain ⟨b, HB, rfl, HNN, XS⟩ := hrel
     by_cases hlb : b < n
     ·obtain ⟨vb, vo, rfl, hcell⟩ := HCEL.out wr2 XS.out a hlt
      have q1 := XS.out.cellSome k1
      have x1 := hcell a hlt
      have x2 := hcell b hlb
      have x3 := hcell _ (HOR.out a b hlt hlb)
      have x4 := hcell _ (HAND.out a b hlt)
      have b1 := HVB.out a
      have b2 := HVB.out b
      have b3 := HVB.out (a ||| b)
      have b4 := HVB.out (a &&& b)
      have HU := Lib.hid (fun w' => s_Union a b (by omega) (by omega) w')
      have HO := Lib.hid (fun w' => s_Overlap a b (by omega) (by omega) w')
      have HCF := Lib.hid (show convF V a b = decide (V[a ||| b]?.getD 0 + V[a &&& b]?.getD 0 < V[a]?.getD 0 + V[b]?.getD 0) from rfl)
      have hu := HOR.out a b hlt hlb
      have ho := HAND.out a b hlt
      obtain ⟨y1, hy1⟩ : ∃ y, y = V[a]?.getD 0 := ⟨_, rfl⟩
      obtain ⟨y2, hy2⟩ : ∃ y, y = V[b]?.getD 0 := ⟨_, rfl⟩
      obtain ⟨y3, hy3⟩ : ∃ y, y = V[a ||| b]?.getD 0 := ⟨_, rfl⟩
      obtain ⟨y4, hy4⟩ : ∃ y, y = V[a &&& b]?.getD 0 := ⟨_, rfl⟩
      rw [← hy1] at x1 b1
      rw [← hy2] at x2 b2
      rw [← hy3] at x3 b3
      rw [← hy4] at x4 b4
      rw [← hy1, ← hy2, ← hy3, ← hy4] at HCF
      clear hy1 hy2 hy3 hy4 hcell
      generalize a ||| b = u at x3 HU hu
      generalize a &&& b = o at x4 HO ho
      have hw1 : IntKind.i64.wrap (y1 + y2) = y1 + y2 := by rw [IntKind.wrap_i64]; omega
      have hw2 : IntKind.i64.wrap (y3 + y4) = y3 + y4 := by rw [IntKind.wrap_i64]; omega
      by_cases hbad : y3 + y4 < y1 + y2
      ·have HBD := Lib.hid (show nonF V V.length = false from nonF_bad (noneF_bad (by rw [HCF.out, decide_eq_true hbad]) (by rw [HL.out]; exact hlb)) (by rw [HL.out]; exact hlt))
       go_wp2_with fail
       go_quiet ((first | (go_at_call 244; exact quiet_same (HU.out _)) | (go_at_call 243; exact quiet_same (HO.out _))))
       go_wp2_with fail
       go_ret3
       exact ⟨⟨_, _, ret_trip (by rw [HZ.out, HBD.out]; rfl)⟩, (HX.out.trans XS.out).trans (Drew.ext ⟨_, rfl⟩)⟩
      ·have HNN2 := Lib.hid (show noneF V a (b + 1) = true by rw [noneF_succ, HNN.out, HCF.out, decide_eq_false hbad]; rfl)
       go_wp2_with fail
       go_quiet ((first | (go_at_call 244; exact quiet_same (HU.out _)) | (go_at_call 243; exact quiet_same (HO.out _))))
       go_wp2_with fail
       go_roundg (g2 - 1)
       case measure => have := HB.out; omega
       case rel => exact ⟨b + 1, Lib.hid (by have := HB.out; omega), by go_num, HNN2, Lib.hid (XS.out.trans (Drew.ext ⟨_, rfl⟩))⟩
     ·have hbn : b = n := by have := HB.out; omega
      subst hbn
      have HNF2 := Lib.hid (show nonF V (a + 1) = true by rw [nonF_succ, HNF.out, HL.out, HNN.out]; rfl)
      go_wp2_with fail
      go_roundg (g1 - 1)
      case measure => have := HA.out; omega
      case rel => exact ⟨a + 1, Lib.hid (by have := HA.out; omega), by go_num, HNF2, XS⟩
   ·have han : a = n := by have := HA.out; omega
    subst han
    go_wp2_with fail
    go_ret3
    exact ⟨⟨_, _, ret_trip (by rw [HZ.out, HL.out, HNF.out]; rfl)⟩, HX.out.trans XR.out⟩
set_option maxHeartbeats 4000000 in
theorem s_IsConvex {w : World} {p : Int} {a : Option Addr} {n cap : Nat} {V : List Int} (h : Ints w a n cap V) :
 Calls Tryz.prog 49 #[pair p a n cap] w fun e w' => e = .returned (.bool (convOk p V)) ∧ Ext w w' := by
 have hX := Ext.alloc w (.cells #[.int .i64 p, .slice a n cap] 29)
 have HL10 : ∀ w' : World, Ext w w' → Calls Tryz.prog 127 #[pair p a n cap, .int .i64 3] w' fun e w2 => e = .returned (.bool (convOk p V)) ∧ Ext w' w2 := by
  intro w' hx
  have hi := h.ext hx
  have hX1 := Ext.alloc w' (.cells #[.int .i64 p, .slice a n cap] 29)
  have HI := Lib.hid (hi.ext hX1)
  have HX := Lib.hid hX1
  have HF := Lib.hid (s_l10Fault (p := p) HI.out)
  obtain ⟨z, hz⟩ : ∃ z, z = (gameOk p V && !nonF V V.length) := ⟨_, rfl⟩
  rw [← hz] at HF
  have HZ := Lib.hid hz
  clear hz
  have k0 : (w'.alloc (.cells #[.int .i64 p, .slice a n cap] 29)).cell? ⟨w'.heap.size, 0, none⟩ = some (.int .i64 p) := by simp
  have k1 : (w'.alloc (.cells #[.int .i64 p, .slice a n cap] 29)).cell? ⟨w'.heap.size, 1, none⟩ = some (.slice a n cap) := by simp
  clear hi hX1 hx hX h
  go_enter Tryz.func127, Tryz.ntmps127
  go_wp2_with fail
  refine HF.out.mono ?_
  rintro e w1 ⟨⟨x, y, rfl⟩, hx1⟩
  have X1 := Lib.hid (HX.out.trans hx1)
  have HV := Lib.hid (s_IsValidGame (p := p) (HI.out.ext hx1))
  replace k0 := hx1.cellSome k0
  replace k1 := hx1.cellSome k1
  clear hx1
  cases hg : gameOk p V
  ·rw [hg] at HV
   have HN := Lib.hid (show convOk p V = false by rw [convOk_eq, hg]; rfl)
   clear hg
   go_wp2_with fail
   refine HV.out.mono ?_
   rintro e w2 ⟨rfl, hx2⟩
   have X2 := Lib.hid (X1.out.trans hx2)
   clear hx2
   go_wp2_with fail
   go_ret
   exact ⟨ret_bool HN.out.symm, X2.out⟩
  ·rw [hg] at HV
   have HN := Lib.hid (show convOk p V = !z by rw [HZ.out, convOk_eq, hg]; simp)
   clear hg
   go_wp2_with fail
   refine HV.out.mono ?_
   rintro e w2 ⟨rfl, hx2⟩
   have X2 := Lib.hid (X1.out.trans hx2)
   clear hx2
   cases z
   all_goals
    go_wp2_with fail
    go_ret
    exact ⟨ret_bool HN.out.symm, X2.out⟩
 have HX := Lib.hid hX
 have H10 := Lib.hid (HL10 _ hX)
 clear h hX HL10
 go_enter Tryz.func49, Tryz.ntmps49
 go_wp2_with fail
 refine H10.out.mono ?_
 rintro e w1 ⟨rfl, hx1⟩
 have X1 := Lib.hid (HX.out.trans hx1)
 clear hx1
 go_wp2_with fail
 go_ret
 exact ⟨rfl, X1.out⟩
end Go.Proofs.YthjjfkeacobikaaGreat
