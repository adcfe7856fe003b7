import Derived.Test.YthjjfkeacobikaaGreatTaAllG12
import Derived.Test.YthjjfkeacobikaaGreatTaAllG9
import Derived.Test.YthjjfkeacobikaaGreatTaAllG17
import Derived.Test.YthjjfkeacobikaaGreatTaAllG29
import Derived.Test.YthjjfkeacobikaaGreatTaAllG28
import Derived.Test.YthjjfkeacobikaaGreatTaAllG26
set_option linter.unusedVariables false
set_option linter.unusedSimpArgs false
namespace Go.Proofs.YthjjfkeacobikaaGreat
set_option maxRecDepth 100000
open Go.RowKit
def joinT (f : Nat → Bool) : Nat → Nat
 | 0 => 0
 | k + 1 => joinT f k + if f k = true then cN k else 0
theorem joinT_lt (f : Nat → Bool) : ∀ k, joinT f k < cN k
 | 0 => by simp [joinT, cN]
 | k + 1 => by
   have ih := joinT_lt f k
   have e : cN (k + 1) = cN k + cN k := by unfold cN; rw [Nat.pow_succ]; omega
   unfold joinT
   split <;> omega
def orF (a b k : Nat) : Bool := bit (a : Int) k || bit (b : Int) k
def andF (a b k : Nat) : Bool := bit (a : Int) k && bit (b : Int) k
theorem or_all : ∀ a b : Fin 32, joinT (orF a.val b.val) 5 = a.val ||| b.val := by decide +kernel
theorem and_all : ∀ a b : Fin 32, joinT (andF a.val b.val) 5 = a.val &&& b.val := by decide +kernel
set_option maxHeartbeats 4000000 in
theorem s_Union (a b : Nat) (ha : a < 32) (hb : b < 32) (w : World) :
 Calls Tryz.prog 244 #[.int .i64 (a : Int), .int .i64 (b : Int)] w fun e w' => e = .returned (.int .i64 ((a ||| b : Nat) : Int)) ∧ w = w' := by
 have hin : inB (a : Int) 0 31 = true := by unfold inB; simp; omega
 have hin2 : inB (b : Int) 0 31 = true := by unfold inB; simp; omega
 have HG := Lib.hid (fun w' => s_l2Good (a : Int) w')
 have HG2 := Lib.hid (fun w' => s_l2Good (b : Int) w')
 rw [hin] at HG
 rw [hin2] at HG2
 clear hin hin2
 have HE := Lib.hid (or_all ⟨a, ha⟩ ⟨b, hb⟩)
 go_enter Tryz.func244, Tryz.ntmps244
 go_wp2_with fail
 go_loopg [5, 6] 5 (fun gk o i wr => ∃ (k : Nat), Hid (gk + k = 5) ∧ i = .int .i64 (k : Int) ∧ o = .int .i64 (joinT (orF a b) k : Int) ∧ wr = w)
 case atStart => exact ⟨0, Lib.hid (by omega), rfl, rfl, rfl⟩
 case round =>
  obtain ⟨g1, h_g1⟩ : ∃ x, x = gk := ⟨_, rfl⟩
  subst h_g1
  obtain ⟨wr1, h_wr1⟩ : ∃ x, x = wr := ⟨_, rfl⟩
  subst h_wr1
  obtain ⟨k, HK, rfl, ho, rfl⟩ := hrel
  obtain ⟨T, hT⟩ : ∃ T, T = joinT (orF a b) k := ⟨_, rfl⟩
  rw [← hT] at ho
  subst ho
  by_cases hlt : k < 5
  ·have hTl : T < 32 := by have := joinT_lt (orF a b) k; have := (cN_le k (by omega)).2; omega
   have HT := Lib.hid hT
   clear hT
   have HA := Lib.hid (hasP_bit (a : Int) k (by omega) (by omega))
   have HB := Lib.hid (hasP_bit (b : Int) k (by omega) (by omega))
   have HC := Lib.hid (s_l2B k (by omega))
   have hp := pow_pos k
   have hp5 := pow_le5 k (by omega)
   cases hb1 : bit (a : Int) k
   all_goals
    cases hb2 : bit (b : Int) k
   all_goals
    have HS := Lib.hid (show joinT (orF a b) (k + 1) = T + if (bit (a : Int) k || bit (b : Int) k) = true then cN k else 0 by rw [HT.out]; rfl)
    rw [hb1] at HA
    rw [hb2] at HB
    rw [hb1, hb2] at HS
    clear hb1 hb2
    go_wp2_with fail
    refine (HG.out _).mono ?_
    rintro e w3 ⟨rfl, rfl⟩
    go_wp2_with fail
    refine (HG2.out _).mono ?_
    rintro e w3 ⟨rfl, rfl⟩
    go_wp2_with fail
    refine (s_HasPlayer (a : Int) (k : Int) _ (by omega)).mono ?_
    rw [HA.out]
    rintro e w3 ⟨rfl, rfl⟩
    go_wp2_with fail
    try (refine (s_HasPlayer (b : Int) (k : Int) _ (by omega)).mono ?_; rw [HB.out]; rintro e w3 ⟨rfl, rfl⟩; go_wp2_with fail)
    try (refine (HC.out _).mono ?_; rintro e w3 ⟨rfl, rfl⟩; go_wp2_with fail)
    go_roundg (g1 - 1)
    case measure => have := HK.out; omega
    case rel => exact ⟨k + 1, Lib.hid (by have := HK.out; omega), by go_num, by rw [HS.out]; simp [cN, go_sem]; try omega, rfl⟩
  ·have hk5 : k = 5 := by have := HK.out; omega
   subst hk5
   have HT := Lib.hid hT
   clear hT
   go_wp2_with fail
   go_ret
   exact ⟨ret_int (by rw [HT.out, HE.out]), rfl⟩
set_option maxHeartbeats 4000000 in
theorem s_Overlap (a b : Nat) (ha : a < 32) (hb : b < 32) (w : World) :
 Calls Tryz.prog 243 #[.int .i64 (a : Int), .int .i64 (b : Int)] w fun e w' => e = .returned (.int .i64 ((a &&& b : Nat) : Int)) ∧ w = w' := by
 have hin : inB (a : Int) 0 31 = true := by unfold inB; simp; omega
 have hin2 : inB (b : Int) 0 31 = true := by unfold inB; simp; omega
 have HG := Lib.hid (fun w' => s_l2Good (a : Int) w')
 have HG2 := Lib.hid (fun w' => s_l2Good (b : Int) w')
 rw [hin] at HG
 rw [hin2] at HG2
 clear hin hin2
 have HE := Lib.hid (and_all ⟨a, ha⟩ ⟨b, hb⟩)
 go_enter Tryz.func243, Tryz.ntmps243
 go_wp2_with fail
 go_loopg [5, 6] 5 (fun gk o i wr => ∃ (k : Nat), Hid (gk + k = 5) ∧ i = .int .i64 (k : Int) ∧ o = .int .i64 (joinT (andF a b) k : Int) ∧ wr = w)
 case atStart => exact ⟨0, Lib.hid (by omega), rfl, rfl, rfl⟩
 case round =>
  obtain ⟨g1, h_g1⟩ : ∃ x, x = gk := ⟨_, rfl⟩
  subst h_g1
  obtain ⟨wr1, h_wr1⟩ : ∃ x, x = wr := ⟨_, rfl⟩
  subst h_wr1
  obtain ⟨k, HK, rfl, ho, rfl⟩ := hrel
  obtain ⟨T, hT⟩ : ∃ T, T = joinT (andF a b) k := ⟨_, rfl⟩
  rw [← hT] at ho
  subst ho
  by_cases hlt : k < 5
  ·have hTl : T < 32 := by have := joinT_lt (andF a b) k; have := (cN_le k (by omega)).2; omega
   have HT := Lib.hid hT
   clear hT
   have HA := Lib.hid (hasP_bit (a : Int) k (by omega) (by omega))
   have HB := Lib.hid (hasP_bit (b : Int) k (by omega) (by omega))
   have HC := Lib.hid (s_l2B k (by omega))
   have hp := pow_pos k
   have hp5 := pow_le5 k (by omega)
   cases hb1 : bit (a : Int) k
   all_goals
    cases hb2 : bit (b : Int) k
   all_goals
    have HS := Lib.hid (show joinT (andF a b) (k + 1) = T + if (bit (a : Int) k && bit (b : Int) k) = true then cN k else 0 by rw [HT.out]; rfl)
    rw [hb1] at HA
    rw [hb2] at HB
    rw [hb1, hb2] at HS
    clear hb1 hb2
    go_wp2_with fail
    refine (HG.out _).mono ?_
    rintro e w3 ⟨rfl, rfl⟩
    go_wp2_with fail
    refine (HG2.out _).mono ?_
    rintro e w3 ⟨rfl, rfl⟩
    go_wp2_with fail
    refine (s_HasPlayer (a : Int) (k : Int) _ (by omega)).mono ?_
    rw [HA.out]
    rintro e w3 ⟨rfl, rfl⟩
    go_wp2_with fail
    try (refine (s_HasPlayer (b : Int) (k : Int) _ (by omega)).mono ?_; rw [HB.out]; rintro e w3 ⟨rfl, rfl⟩; go_wp2_with fail)
    try (refine (HC.out _).mono ?_; rintro e w3 ⟨rfl, rfl⟩; go_wp2_with fail)
    go_roundg (g1 - 1)
    case measure => have := HK.out; omega
    case rel => exact ⟨k + 1, Lib.hid (by have := HK.out; omega), by go_num, by rw [HS.out]; simp [cN, go_sem]; try omega, rfl⟩
  ·have hk5 : k = 5 := by have := HK.out; omega
   subst hk5
   have HT := Lib.hid hT
   clear hT
   go_wp2_with fail
   go_ret
   exact ⟨ret_int (by rw [HT.out, HE.out]), rfl⟩
theorem ret_tupE {v : Value} {a b : Bool} (h : a = b) : Ending.returned (.tuple #[v, .bool a]) = .returned (.tuple #[v, .bool b]) := by rw [h]
theorem OwnR.madeE (w : World) (base n : Nat) (hn : n = w.heap.size) (hb : base ≤ w.heap.size) : OwnR (w.alloc (.cells #[] 43)) base (.slice (some ⟨n, 0, none⟩) 0 0) [] := by subst hn; exact OwnR.made w base hb
set_option maxHeartbeats 4000000 in
theorem s_ExcessOf {w : World} {p : Int} {a : Option Addr} {n cap : Nat} {V : List Int} (h : Ints w a n cap V) {b : Option Addr} {m mcap : Nat} {X : List (Int × Int)} (hx : Rats w b m mcap X) (hg : gameOk p V = true) {s : Nat} (hs : s < n) :
 Calls Tryz.prog 190 #[pair p a n cap, .slice b m mcap, .int .i64 (s : Int)] w fun e w' => e = .returned (resR ((excS V X s).getD (0, 0), (excS V X s).isSome)) ∧ Ext w w' := by
 obtain ⟨W, hW⟩ : ∃ W, W = (w.alloc (.cells #[.int .i64 p, .slice a n cap] 29)).alloc (.cells #[.int .i64 0, .int .i64 0] 43) := ⟨_, rfl⟩
 have HWS := Lib.hid (show W.heap.size = w.heap.size + 2 by rw [hW]; simp)
 have hX : Ext w W := by rw [hW]; exact (Ext.alloc _ _).trans (Ext.alloc _ _)
 have HRB := Lib.hid (show W.heap[w.heap.size + 1]? = some (.cells #[.int .i64 0, .int .i64 0] 43 (0, 0)) by rw [hW]; exact heapA_new _ _ _ (by simp))
 have HP0 := Lib.hid (show W.cell? ⟨w.heap.size, 0, none⟩ = some (.int .i64 p) by rw [hW]; exact Ext.cellSome (Ext.alloc _ _) (by simp))
 have HP1 := Lib.hid (show W.cell? ⟨w.heap.size, 1, none⟩ = some (.slice a n cap) by rw [hW]; exact Ext.cellSome (Ext.alloc _ _) (by simp))
 have HI := Lib.hid (h.ext hX)
 have HR := Lib.hid (hx.ext hX)
 have HX := Lib.hid hX
 have HV := Lib.hid (s_IsValidGame (p := p) HI.out)
 rw [hg, hW] at HV
 have HL := Lib.hid h.hlen
 obtain ⟨q, rfl, hq1, hq5, hVl, _, hVb⟩ := gameOk_len hg
 have hc := cN_le q hq5
 have hn32 : n ≤ 32 := by have := HL.out; omega
 have HVB := Lib.hid (fun i => getD_bd hVb i)
 have hcap := h.hcap
 have hmax := h.hmax
 have hin : inB (s : Int) 0 ((n : Int) - 1) = true := by unfold inB; simp; omega
 clear h hx hX hg hVl hVb
 go_enter Tryz.func190, Tryz.ntmps190
 go_wp2_with fail
 refine HV.out.mono ?_
 rw [← hW]
 rintro e w1 ⟨rfl, hx1⟩
 have X1 := Lib.hid hx1
 have b0 := hx1.cellSome HP0.out
 have b1 := hx1.cellSome HP1.out
 clear hx1 hW HV
 go_wp2_with fail
 refine (s_l1In _ _ _ _).mono ?_
 rw [hin]
 rintro e w2 ⟨rfl, rfl⟩
 clear hin
 go_wp2_with fail
 refine (s_ShareOf (HR.out.ext X1.out) s (by omega)).mono ?_
 obtain ⟨r1, r2, one, hr⟩ : ∃ r1 r2 one, ((shareP X s).getD (0, 0), (shareP X s).isSome) = (((r1, r2) : Int × Int), one) := ⟨_, _, _, rfl⟩
 rw [hr]
 have HSH := Lib.hid hr
 rintro e w3 ⟨rfl, hx3⟩
 obtain ⟨w4, hw4⟩ : ∃ E, E = w3.alloc (.cells #[.int .i64 r1, .int .i64 r2] 43) := ⟨_, rfl⟩
 have hx4 : Ext w3 w4 := by rw [hw4]; exact Ext.alloc _ _
 have X4 := Lib.hid ((X1.out.trans hx3).trans hx4)
 have c0 := (hx3.trans hx4).cellSome b0
 have c1 := (hx3.trans hx4).cellSome b1
 have d0 : w4.cell? ⟨w3.heap.size, 0, none⟩ = some (.int .i64 r1) := by rw [hw4]; simp
 have d1 : w4.cell? ⟨w3.heap.size, 1, none⟩ = some (.int .i64 r2) := by rw [hw4]; simp
 obtain ⟨vb, vo, rfl, hvc⟩ := (HI.out.ext X4.out).at hs
 obtain ⟨v, hv⟩ : ∃ v, v = V[s]?.getD 0 := ⟨_, rfl⟩
 rw [← hv] at hvc
 obtain ⟨p2, q2, ok, hpq⟩ : ∃ p2 q2 ok, subR (v, 1) (r1, r2) = ((p2, q2), ok) := ⟨_, _, _, rfl⟩
 have HPQ := Lib.hid hpq
 have HVV := Lib.hid hv
 clear hr hx3 hx4 b0 b1 hv hpq
 go_upto_region 4 with fail
 rw [← hw4]
 clear hw4
 go_upto_region 4 with fail
 go_cut [10, 11] (fun sx so wx => ∃ g : Nat, sx = .pointer (some ⟨g, 0, none⟩) ∧ so = .bool ok ∧ Hid (Boxed w4 wx g p2 q2))
 case first =>
  have hk2 : Ext w4 w4.drew := Ext.drew w4
  have hka : Ext w4 (w4.alloc (.cells #[.int .i64 0, .int .i64 0] 43)).drew := (Ext.alloc _ _).trans (Ext.drew _)
  have HKEEP := Lib.hid (fun (w' : World) (h : Ext w4 w') => (⟨h.cellSome c1, h.cellSome hvc, h.cellSome d0, h.cellSome d1, h⟩ : w'.cell? ⟨w.heap.size, 1, none⟩ = some (.slice (some ⟨vb, vo, none⟩) n cap) ∧ w'.cell? ⟨vb, vo + s, none⟩ = some (.int .i64 v) ∧ w'.cell? ⟨w3.heap.size, 0, none⟩ = some (.int .i64 r1) ∧ w'.cell? ⟨w3.heap.size, 1, none⟩ = some (.int .i64 r2) ∧ Ext w4 w'))
  go_region_held3 (fun w' => w'.cell? ⟨w.heap.size, 1, none⟩ = some (.slice (some ⟨vb, vo, none⟩) n cap) ∧ w'.cell? ⟨vb, vo + s, none⟩ = some (.int .i64 v) ∧ w'.cell? ⟨w3.heap.size, 0, none⟩ = some (.int .i64 r1) ∧ w'.cell? ⟨w3.heap.size, 1, none⟩ = some (.int .i64 r2) ∧ Ext w4 w')
   (first
     | with_reducible exact HKEEP.out _ hk2
     | with_reducible exact HKEEP.out _ hka
     | with_reducible exact HKEEP.out _ ((hk2.setCell (by first | (simp; done) | (simp; omega)) _).setCell (by first | (simp; done) | (simp; omega)) _)
     | with_reducible exact HKEEP.out _ (hk2.trans (Ext.alloc _ _))
     | with_reducible exact HKEEP.out _ (hBB.put _ _).ext)
   (first
     | (go_at_call 86
        (with_reducible refine (s_l3Int _ _).mono ?_)
        rintro e w5 ⟨rfl, hx_w5⟩
        first | (with_reducible have hBB := Boxed.grow hBB hx_w5) | (with_reducible have hBB := Boxed.firstD hx_w5) | (with_reducible have hBB := Boxed.laterD hk2 hx_w5) | skip
        first | (have b0_ := hBB.c0; have b1_ := hBB.c1; have fb_ := hBB.free) | skip
        have hk2 : Ext w4 w5 := by first | with_reducible exact hk2.trans hx_w5 | with_reducible exact hka.trans hx_w5 | with_reducible exact (hk2.trans (Ext.alloc _ _)).trans hx_w5
        have hk2s := hk2.size)
     | (go_at_call 184
        (with_reducible refine (s_SubRat _ _ _ _ _).mono ?_)
        rw [HPQ.out]
        rintro e w6 ⟨rfl, hx_w6⟩
        first | (with_reducible have hBB := Boxed.grow hBB hx_w6) | (with_reducible have hBB := Boxed.firstD hx_w6) | (with_reducible have hBB := Boxed.laterD hk2 hx_w6) | skip
        first | (have b0_ := hBB.c0; have b1_ := hBB.c1; have fb_ := hBB.free) | skip
        have hk2 : Ext w4 w6 := by first | with_reducible exact hk2.trans hx_w6 | with_reducible exact hka.trans hx_w6 | with_reducible exact (hk2.trans (Ext.alloc _ _)).trans hx_w6
        have hk2s := hk2.size)
     | fail)
  all_goals (go_wp2_with fail; go_meet; first | exact ⟨_, rfl, rfl, Lib.hid (hBB.put _ _)⟩ | exact ⟨_, rfl, rfl, Lib.hid (Boxed.new hk2 _ _)⟩ | exact ⟨_, rfl, rfl, Lib.hid (Boxed.new' hk2 _ _ (by simp))⟩)
 obtain ⟨g, rfl, rfl, HB⟩ := hcut
 have g0 := HB.out.c0
 have g1 := HB.out.c1
 have XC := Lib.hid (X4.out.trans HB.out.ext)
 have hr := rcell ((XC.out.block _ (by have := HWS.out; omega)).trans HRB.out)
 obtain ⟨hr0, hr1, hrf⟩ := hr
 have XF := Lib.hid (HX.out.trans XC.out)
 cases one
 ·have HN := Lib.hid (show excS V X s = none by
   have := HSH.out
   simp only [Prod.mk.injEq] at this
   unfold excS
   cases hsh : shareP X s with
   | none => rfl
   | some r => rw [hsh] at this; simp at this)
  go_wp2_with fail
  refine bodyPost_ret (v := .tuple #[.agg #[.int .i64 0, .int .i64 0], .bool false]) (by simp [results, Tryz.results190, go_sem, hr0, hr1]) rfl ⟨by rw [HN.out]; rfl, (XF.out.store 0 (by omega) _).store 1 (by omega) _⟩
 ·have HN := Lib.hid (show excS V X s = if ok = true then some (p2, q2) else none by
   have := HSH.out
   simp only [Prod.mk.injEq] at this
   unfold excS
   cases hsh : shareP X s with
   | none => rw [hsh] at this; simp at this
   | some r =>
     rw [hsh] at this
     simp only [Option.getD_some] at this
     rw [this.1]
     show excR (V[s]?.getD 0) (r1, r2) = _
     unfold excR
     rw [← HVV.out, HPQ.out])
  cases ok
  ·go_wp2_with fail
   refine bodyPost_ret (v := .tuple #[.agg #[.int .i64 0, .int .i64 0], .bool false]) (by simp [results, Tryz.results190, go_sem, hr0, hr1]) rfl ⟨by rw [HN.out]; rfl, (XF.out.store 0 (by omega) _).store 1 (by omega) _⟩
  ·go_wp2_with fail
   refine bodyPost_ret (v := .tuple #[.agg #[.int .i64 p2, .int .i64 q2], .bool true]) (by simp [results, Tryz.results190, go_sem, hr0, hr1]) rfl ⟨by rw [HN.out]; rfl, (XF.out.store 0 (by omega) _).store 1 (by omega) _⟩
set_option maxHeartbeats 4000000 in
theorem s_l11All {w : World} {p : Int} {a : Option Addr} {n cap : Nat} {V : List Int} (h : Ints w a n cap V) {b : Option Addr} {m mcap : Nat} {X : List (Int × Int)} (hx : Rats w b m mcap X) :
 Calls Tryz.prog 128 #[pair p a n cap, .slice b m mcap] w fun e w' => (∃ v, e = .returned (.tuple #[v, .bool (allX p V X).isSome]) ∧ OwnR w' w.heap.size v ((allX p V X).getD [])) ∧ Ext w w' := by
 have HX := Lib.hid (Ext.alloc w (.cells #[.int .i64 p, .slice a n cap] 29))
 have HI := Lib.hid (h.ext HX.out)
 have HR := Lib.hid (hx.ext HX.out)
 have HL := Lib.hid h.hlen
 have hcap := h.hcap
 have hmax := h.hmax
 have HP := Lib.hid (fun (w' : World) (hx' : Ext (w.alloc (.cells #[.int .i64 p, .slice a n cap] 29)) w') => s_IsPayoff (p := p) (HI.out.ext hx') (HR.out.ext hx'))
 have k0 : (w.alloc (.cells #[.int .i64 p, .slice a n cap] 29)).cell? ⟨w.heap.size, 0, none⟩ = some (.int .i64 p) := by simp
 have k1 : (w.alloc (.cells #[.int .i64 p, .slice a n cap] 29)).cell? ⟨w.heap.size, 1, none⟩ = some (.slice a n cap) := by simp
 obtain ⟨W, hW⟩ : ∃ W, W = w.alloc (.cells #[.int .i64 p, .slice a n cap] 29) := ⟨_, rfl⟩
 rw [← hW] at HX HI HR HP k0 k1
 have HWS := Lib.hid (show W.heap.size = w.heap.size + 1 by rw [hW]; simp)
 have k0' := (Ext.alloc W (.cells #[] 43)).cellSome k0
 have k1' := (Ext.alloc W (.cells #[] 43)).cellSome k1
 clear h hx
 go_enter Tryz.func128, Tryz.ntmps128
 go_upto_region 2 with fail
 rw [← hW]
 clear hW
 go_wp2_with fail
 refine (HP.out _ (Ext.alloc W (.cells #[] 43))).mono ?_
 rintro e w1 ⟨rfl, hx1⟩
 have X1 := Lib.hid ((Ext.alloc W (.cells #[] 43)).trans hx1)
 have HO1 := Lib.hid (show OwnR w1 W.heap.size (.slice (some ⟨w.heap.size + 1, 0, none⟩) 0 0) [] from HWS.out ▸ (OwnR.made W W.heap.size (Nat.le_refl _)).ext hx1)
 clear hx1 k0' k1'
 cases hp : payP p V X
 ·have HN := Lib.hid (allX_not hp)
  clear hp
  go_wp2_with fail
  go_ret2
  exact ⟨⟨_, ret_tupE (by rw [HN.out]; rfl), by rw [HN.out]; exact HO1.out.mono (by rw [HWS.out]; omega)⟩, HX.out.trans X1.out⟩
 have HA := Lib.hid (allX_ok hp)
 have HG := Lib.hid (payP_game hp)
 obtain ⟨q, hpq, hq1, hq5, hVl, _, hVb⟩ := gameOk_len HG.out
 have hc := cN_le q hq5
 have hn32 : n ≤ 32 := by have := HL.out; omega
 have hn2 : 2 ≤ n := by
  have : ∀ q : Fin 6, 1 ≤ q.val → 2 ≤ cN q.val := by decide
  have := this ⟨q, by omega⟩ hq1
  simp only at this
  have := HL.out
  omega
 rw [HL.out] at HA
 clear hp hpq hVl hVb
 go_wp2_with fail
 go_loopg [6, 7] (n - 2) (fun gk oo ii wr => ∃ (k s : Nat) (a1 : Option Addr) (n1 p1 : Nat) (r : List (Int × Int)), Hid (gk + k = n - 2) ∧ Hid (s = 1 + k) ∧ oo = .slice a1 n1 p1 ∧ ii = .int .i64 (s : Int) ∧ Hid (runT (fun k => excS V X (1 + k)) k = some r) ∧ Hid (OwnR wr W.heap.size (.slice a1 n1 p1) r) ∧ Hid (Ext W wr))
 case atStart => exact ⟨0, 1, _, _, _, [], Lib.hid (by omega), Lib.hid rfl, rfl, rfl, Lib.hid rfl, HO1, X1⟩
 case round =>
  obtain ⟨g1, h_g1⟩ : ∃ x, x = gk := ⟨_, rfl⟩
  subst h_g1
  obtain ⟨wr, h_wr⟩ : ∃ x, x = wr := ⟨_, rfl⟩
  subst h_wr
  obtain ⟨k, s, a1, n1, p1, r, HK, HS, rfl, rfl, HRR, HO, XR⟩ := hrel
  have c0 := XR.out.cellSome k0
  have c1 := XR.out.cellSome k1
  have hsz := XR.out.size
  have hs1 : 1 ≤ s := by have := HS.out; omega
  by_cases hlt : s + 1 < n
  ·have HE := Lib.hid (s_ExcessOf (p := p) (HI.out.ext XR.out) (HR.out.ext XR.out) HG.out (s := s) (by omega))
   obtain ⟨x, y, ok, hxy⟩ : ∃ x y ok, ((excS V X s).getD (0, 0), (excS V X s).isSome) = (((x, y) : Int × Int), ok) := ⟨_, _, _, rfl⟩
   rw [hxy] at HE
   have HXY := Lib.hid hxy
   clear hxy
   go_wp2_with fail
   refine HE.out.mono ?_
   rintro e w3 ⟨rfl, hx3⟩
   have X4 := Lib.hid ((XR.out.trans hx3).trans (Ext.alloc w3 (.cells #[.int .i64 x, .int .i64 y] 43)))
   have HO4 := Lib.hid ((HO.out.ext hx3).ext (Ext.alloc w3 (.cells #[.int .i64 x, .int .i64 y] 43)))
   have hs3 := (XR.out.trans hx3).size
   clear hx3
   cases ok
   ·have HN := Lib.hid (show allX p V X = none by
     rw [HA.out]
     unfold excL
     refine runT_fail HRR.out ?_ (show k < n - 2 by have := HS.out; omega)
     rw [← HS.out]
     have := HXY.out
     simp only [Prod.mk.injEq] at this
     cases hq : excS V X s with
     | none => rfl
     | some z => rw [hq] at this; simp at this)
    go_wp2_with fail
    go_ret2
    exact ⟨⟨_, ret_tupE (by rw [HN.out]; rfl), by rw [HN.out]; exact OwnR.madeE _ _ _ (by simp) (by have := X4.out.size; have := HX.out.size; omega)⟩, (HX.out.trans X4.out).trans (Ext.alloc _ _)⟩
   ·have HR2 := Lib.hid (runT_some (x := (x, y)) HRR.out (by
     rw [← HS.out]
     have := HXY.out
     simp only [Prod.mk.injEq] at this
     cases hq : excS V X s with
     | none => rw [hq] at this; simp at this
     | some z => rw [hq] at this; simp at this; rw [this]))
    have HLR := Lib.hid (runT_len HRR.out)
    have hk32 : k ≤ 32 := by have := HS.out; omega
    go_wp2_with (first
     | (at_builtin; refine append_rats rfl _ _ rfl W.heap.size (.slice a1 n1 p1) _ rfl (HO4.out.ext (Ext.alloc _ _)) _ 1 _ [(x, y)] rfl (Rats.one' _ _ _ _ _ (by simp)) (by rw [HLR.out]; omega) (by simp; omega) ?_; intro v2 w5 ho hg hnear; obtain ⟨a2, n2, c2, rfl, HN2⟩ := ho.var; have HO5 := Lib.hid ho; have X5 := Lib.hid (ext_grown (X4.out.trans (Ext.alloc _ _)) hg (fun j hj => (HO4.out.lt j hj).1)); clear ho hg hnear))
    go_roundg (g1 - 1)
    case measure => have := HK.out; have := HS.out; omega
    case rel => exact ⟨k + 1, s + 1, a2, n2, c2, _, Lib.hid (by have := HK.out; have := HS.out; omega), Lib.hid (by have := HS.out; omega), rfl, by go_num, HR2, HO5, X5⟩
  ·have hk2 : k = n - 2 := by have := HK.out; have := HS.out; omega
   subst hk2
   go_wp2_with fail
   go_ret2
   exact ⟨⟨_, ret_tupE (by rw [HA.out]; unfold excL; rw [HRR.out]; rfl), by rw [HA.out]; unfold excL; rw [HRR.out]; exact HO.out.mono (by rw [HWS.out]; omega)⟩, HX.out.trans XR.out⟩
set_option maxHeartbeats 4000000 in
theorem s_InCore {w : World} {p : Int} {a : Option Addr} {n cap : Nat} {V : List Int} (h : Ints w a n cap V) {b : Option Addr} {m mcap : Nat} {X : List (Int × Int)} (hx : Rats w b m mcap X) :
 Calls Tryz.prog 50 #[pair p a n cap, .slice b m mcap] w fun e w' => e = .returned (.bool (coreS p V X)) ∧ Ext w w' := by
 have HX := Lib.hid (Ext.alloc w (.cells #[.int .i64 p, .slice a n cap] 29))
 have HA := Lib.hid (s_l11All (p := p) (h.ext HX.out) (hx.ext HX.out))
 clear h hx
 go_enter Tryz.func50, Tryz.ntmps50
 go_wp2_with fail
 refine HA.out.mono ?_
 rintro e w1 ⟨⟨v, rfl, ho⟩, hx1⟩
 have X1 := Lib.hid (HX.out.trans hx1)
 obtain ⟨o, ho2⟩ : ∃ o, o = allX p V X := ⟨_, rfl⟩
 rw [← ho2] at ho
 rw [← ho2]
 obtain ⟨l, hl⟩ : ∃ l, l = o.getD [] := ⟨_, rfl⟩
 rw [← hl] at ho
 obtain ⟨al, nl, cl, rfl, HN⟩ := ho.var
 have hq1 := ho.rats.hcap
 have hq2 := ho.rats.hmax
 have HO := Lib.hid ho
 have HC := Lib.hid (show coreS p V X = (o.isSome && l.all fun e => decide (e.1 ≤ 0)) by
  unfold coreS
  rw [← ho2, hl]
  cases o <;> rfl)
 clear ho ho2 hl hx1
 go_wp2_with fail
 go_loopg [7] nl (fun gk ii wr => ∃ (k : Nat), Hid (gk + k = nl) ∧ ii = .int .i64 (k : Int) ∧ Hid ((l.take k).all (fun e => decide (e.1 ≤ 0)) = true) ∧ Hid (Ext w1 wr))
 case atStart => exact ⟨0, Lib.hid (by omega), rfl, Lib.hid rfl, Lib.hid (Ext.refl _)⟩
 case round =>
  obtain ⟨g1, h_g1⟩ : ∃ x, x = gk := ⟨_, rfl⟩
  subst h_g1
  obtain ⟨wr, h_wr⟩ : ∃ x, x = wr := ⟨_, rfl⟩
  subst h_wr
  obtain ⟨k, HK, rfl, HT, XR⟩ := hrel
  by_cases hlt : k < nl
  ·obtain ⟨xb, xo, x, y, rfl, hxy, hc0, hc1⟩ := (HO.out.rats.ext XR.out).at hlt
   have HXY := Lib.hid hxy
   clear hxy
   by_cases hpos : 0 < x
   ·have HN2 := Lib.hid (show coreS p V X = false by
     rw [HC.out, Bool.and_eq_false_iff]
     refine .inr ?_
     rw [Bool.eq_false_iff]
     intro hall
     have := List.all_eq_true.1 hall (l[k]'(by rw [HN.out]; exact hlt)) (List.getElem_mem _)
     have e := HXY.out
     rw [List.getElem?_eq_getElem (by rw [HN.out]; exact hlt), Option.getD_some] at e
     rw [e] at this
     simp only [decide_eq_true_eq] at this
     omega)
    go_wp2_with fail
    go_ret
    exact ⟨ret_bool HN2.out.symm, X1.out.trans XR.out⟩
   ·have HT2 := Lib.hid (show (l.take (k + 1)).all (fun e => decide (e.1 ≤ 0)) = true by
     rw [take_snocR (by rw [HN.out]; exact hlt), List.all_append, HT.out, HXY.out]
     simp only [List.all_cons, List.all_nil, Bool.and_true, Bool.true_and, decide_eq_true_eq]
     omega)
    go_wp2_with fail
    go_roundg (g1 - 1)
    case measure => have := HK.out; omega
    case rel => exact ⟨k + 1, Lib.hid (by have := HK.out; omega), by go_num, HT2, XR⟩
  ·have HC2 := Lib.hid (show coreS p V X = o.isSome by
    have h := HT.out
    rw [List.take_of_length_le (by rw [HN.out]; omega)] at h
    rw [HC.out, h, Bool.and_true])
   go_wp2_with fail
   go_ret
   exact ⟨ret_bool HC2.out.symm, X1.out.trans XR.out⟩
def NucRet (w : World) (base : Nat) (e : Ending) (r : NucR) : Prop :=
 ∃ pa pn pc sa sn sc, e = .returned (.agg #[.bool r.ok, .slice pa pn pc, .slice sa sn sc, .int .i64 r.rounds]) ∧ OwnR w base (.slice pa pn pc) r.pt ∧ OwnG fixE 79 w base (.slice sa sn sc) r.st
theorem NucRet.no (w : World) (base : Nat) : NucRet w base (.returned (.agg #[.bool false, .slice none 0 0, .slice none 0 0, .int .i64 0])) NucR.no :=
 ⟨Option.none, 0, 0, Option.none, 0, 0, rfl, OwnR.nil _ _, OwnG.nil _ _ _ _⟩
theorem nbox {w : World} {g : Nat} {a b c d : Value} {t : TypeId} (hb : w.heap[g]? = some (.cells #[a, b, c, d] t (0, 0))) :
 w.cell? ⟨g, 0, none⟩ = some a ∧ w.cell? ⟨g, 1, none⟩ = some b ∧ w.cell? ⟨g, 2, none⟩ = some c ∧ w.cell? ⟨g, 3, none⟩ = some d ∧ ∀ k, w.frozen? ⟨g, k, none⟩ = false := by
 refine ⟨?_, ?_, ?_, ?_, fun k => frozen_of_row w g k _ _ hb⟩ <;> rw [cell_of_row w g _ _ _ _ hb] <;> rfl
theorem nput {W : World} {r : Nat} {x0 x1 x2 x3 : Value} {t : TypeId} (hb : W.heap[r]? = some (.cells #[x0, x1, x2, x3] t (0, 0))) (v0 v1 v2 v3 : Value) :
 ((((W.setCell ⟨r, 0, none⟩ v0).setCell ⟨r, 1, none⟩ v1).setCell ⟨r, 2, none⟩ v2).setCell ⟨r, 3, none⟩ v3).heap[r]? = some (.cells #[v0, v1, v2, v3] t (0, 0)) ∧
   ∀ b, b ≠ r → ((((W.setCell ⟨r, 0, none⟩ v0).setCell ⟨r, 1, none⟩ v1).setCell ⟨r, 2, none⟩ v2).setCell ⟨r, 3, none⟩ v3).heap[b]? = W.heap[b]? := by
 have h1 := heap_setCell_same W r 0 _ t v0 hb
 have h2 := heap_setCell_same _ r 1 _ t v1 h1
 have h3 := heap_setCell_same _ r 2 _ t v2 h2
 have h4 := heap_setCell_same _ r 3 _ t v3 h3
 exact ⟨h4, fun b hb2 => (heap_setCell_other _ _ _ _ hb2).trans ((heap_setCell_other _ _ _ _ hb2).trans ((heap_setCell_other _ _ _ _ hb2).trans (heap_setCell_other _ _ _ _ hb2)))⟩
theorem nputX {w W : World} {r : Nat} (hX : Ext w W) (hr : w.heap.size ≤ r) (v0 v1 v2 v3 : Value) : Ext w ((((W.setCell ⟨r, 0, none⟩ v0).setCell ⟨r, 1, none⟩ v1).setCell ⟨r, 2, none⟩ v2).setCell ⟨r, 3, none⟩ v3) :=
 (((hX.store 0 hr v0).store 1 hr v1).store 2 hr v2).store 3 hr v3
structure NucO (W wr : World) (B : Nat) (vp vs vf : Value) (pt : List (Int × Int)) (L : List (Int × Int × Int)) (fx : List Int) (k : Nat) : Prop where
 box : wr.heap[B]? = some (.cells #[.bool true, vp, vs, .int .i64 (k : Int)] 73 (0, 0))
 pt : OwnR wr (B + 1) vp pt
 st : OwnG fixE 79 wr (B + 1) vs L
 fx : OwnI wr (B + 1) vf fx
 ext : Ext W wr
 lo : W.heap.size ≤ B
section
variable {W wr w' : World} {B : Nat} {vp vs vf : Value} {pt : List (Int × Int)} {L : List (Int × Int × Int)} {fx : List Int} {k : Nat}
theorem NucO.grow (h : NucO W wr B vp vs vf pt L fx k) (hx : Ext wr w') : NucO W w' B vp vs vf pt L fx k := ⟨hx.blk h.box, h.pt.ext hx, h.st.ext hx, h.fx.ext hx, h.ext.trans hx, h.lo⟩
theorem NucO.lt (h : NucO W wr B vp vs vf pt L fx k) : B < wr.heap.size := lt_of_block h.box
theorem NucO.off {v : Value} (h : ∀ k, v.ownBlock = some k → B + 1 ≤ k ∧ k < wr.heap.size) (j : Nat) (u : Value) : ∀ k, v.ownBlock = some k → (wr.setCell ⟨B, j, none⟩ u).heap[k]? = wr.heap[k]? := fun k hk => heap_setCell_other _ _ _ _ (by have := (h k hk).1; show k ≠ B; omega)
theorem NucO.setP (h : NucO W wr B vp vs vf pt L fx k) {vp' : Value} {pt' : List (Int × Int)} (hp : OwnR wr (B + 1) vp' pt') : NucO W (wr.setCell ⟨B, 1, none⟩ vp') B vp' vs vf pt' L fx k :=
 ⟨heap_setCell_same wr B 1 _ _ _ h.box, hp.keep (NucO.off hp.lt 1 _), h.st.keep (NucO.off h.st.lt 1 _), h.fx.keep (NucO.off h.fx.lt 1 _), h.ext.store 1 h.lo _, h.lo⟩
theorem NucO.setK (h : NucO W wr B vp vs vf pt L fx k) {k' : Nat} {i : Int} (hi : i = (k' : Int)) : NucO W (wr.setCell ⟨B, 3, none⟩ (.int .i64 i)) B vp vs vf pt L fx k' := by
 subst hi
 exact ⟨heap_setCell_same wr B 3 _ _ _ h.box, h.pt.keep (NucO.off h.pt.lt 3 _), h.st.keep (NucO.off h.st.lt 3 _), h.fx.keep (NucO.off h.fx.lt 3 _), h.ext.store 3 h.lo _, h.lo⟩
theorem NucO.grewS (h : NucO W wr B vp vs vf pt L fx k) {w1 : World} (hx : Ext wr w1) {vs' : Value} {L' : List (Int × Int × Int)} (hg : w1.grownBy w' vs.ownBlock) (ho : OwnG fixE 79 w' (B + 1) vs' L') : NucO W (w'.setCell ⟨B, 2, none⟩ vs') B vp vs' vf pt L' fx k := by
 have hb := (hg.block B (lt_of_block (hx.blk h.box)) (fun e => by have := (h.st.lt B e.symm).1; omega)).trans (hx.blk h.box)
 have h1 : OwnR w' (B + 1) vp pt := ownsRow_grown (h.pt.ext hx) (h.st.ext hx) (by decide) hg
 have h2 : OwnI w' (B + 1) vf fx := ownsRow_grown (h.fx.ext hx) (h.st.ext hx) (by decide) hg
 exact ⟨heap_setCell_same w' B 2 _ _ _ hb, h1.keep (NucO.off h1.lt 2 _), ho.keep (NucO.off ho.lt 2 _), h2.keep (NucO.off h2.lt 2 _), ((h.ext.trans hx).grown hg (fun j hj => by have := (h.st.lt j hj).1; have := h.lo; omega)).store 2 h.lo _, h.lo⟩
theorem NucO.grewP (h : NucO W wr B vp vs vf pt L fx k) {w1 : World} (hx : Ext wr w1) {vp' : Value} {pt' : List (Int × Int)} (hg : w1.grownBy w' vp.ownBlock) (ho : OwnR w' (B + 1) vp' pt') : NucO W (w'.setCell ⟨B, 1, none⟩ vp') B vp' vs vf pt' L fx k := by
 have hb := (hg.block B (lt_of_block (hx.blk h.box)) (fun e => by have := (h.pt.lt B e.symm).1; omega)).trans (hx.blk h.box)
 have h1 : OwnG fixE 79 w' (B + 1) vs L := ownsRow_grown (h.st.ext hx) (h.pt.ext hx) (by decide) hg
 have h2 : OwnI w' (B + 1) vf fx := ownsRow_grown (h.fx.ext hx) (h.pt.ext hx) (by decide) hg
 exact ⟨heap_setCell_same w' B 1 _ _ _ hb, ho.keep (NucO.off ho.lt 1 _), h1.keep (NucO.off h1.lt 1 _), h2.keep (NucO.off h2.lt 1 _), ((h.ext.trans hx).grown hg (fun j hj => by have := (h.pt.lt j hj).1; have := h.lo; omega)).store 1 h.lo _, h.lo⟩
end
structure Stay (lo : Nat) (w w' : World) : Prop where
 size : w.heap.size ≤ w'.heap.size
 block : ∀ k, lo ≤ k → k < w.heap.size → w'.heap[k]? = w.heap[k]?
def Off (lo hi : Nat) (v : Value) : Prop := ∀ k, v.ownBlock = some k → k < lo ∨ hi ≤ k
theorem Off.of {lo hi : Nat} {w : World} {base : Nat} {v : Value} (h : ∀ k, v.ownBlock = some k → base ≤ k ∧ k < w.heap.size) (hl : w.heap.size ≤ lo) : Off lo hi v := fun k hk => Or.inl (by have := (h k hk).2; omega)
theorem Off.nil (lo hi n c : Nat) : Off lo hi (.slice none n c) := fun k hk => by cases hk
theorem Off.near {lo hi : Nat} {w : World} {v v' : Value} (h : Off lo hi v) (hn : Near w v v') (hs : hi ≤ w.heap.size) : Off lo hi v' := fun k hk => by
 rcases hn k hk with h1 | h1
 ·exact h k h1
 ·exact Or.inr (by omega)
section
variable {lo : Nat} {w w1 w2 : World}
theorem Stay.refl (lo : Nat) (w : World) : Stay lo w w := ⟨Nat.le_refl _, fun _ _ _ => rfl⟩
theorem Stay.ext (h : Stay lo w w1) (hx : Ext w1 w2) : Stay lo w w2 := ⟨Nat.le_trans h.size hx.size, fun k h1 h2 => (hx.block k (Nat.lt_of_lt_of_le h2 h.size)).trans (h.block k h1 h2)⟩
theorem Stay.grown (h : Stay lo w w1) {v : Value} (hg : w1.grownBy w2 v.ownBlock) (ho : Off lo w.heap.size v) : Stay lo w w2 := ⟨Nat.le_trans h.size hg.size, fun k h1 h2 => (hg.block k (Nat.lt_of_lt_of_le h2 h.size) (fun e => by have := ho k e.symm; omega)).trans (h.block k h1 h2)⟩
theorem Stay.set (h : Stay lo w w1) {B j : Nat} (hB : B < lo) (v : Value) : Stay lo w (w1.setCell ⟨B, j, none⟩ v) := ⟨by rw [World.size_setCell]; exact h.size, fun k h1 h2 => (heap_setCell_other _ _ _ _ (by show k ≠ B; omega)).trans (h.block k h1 h2)⟩
theorem Stay.on (h : Stay lo w w1) {P : World → Prop} (ho : On lo w P) : On lo w1 P := ho.keep h.size h.block
theorem Stay.blk (h : Stay lo w w1) {g : Nat} {o : Obj} (hg : lo ≤ g) (hb : w.heap[g]? = some o) : w1.heap[g]? = some o := (h.block g hg (lt_of_block hb)).trans hb
theorem Stay.ints (h : Stay lo w w1) {base : Nat} {v : Value} {l : List Int} (hb : lo ≤ base) (ho : OwnI w base v l) : OwnI w1 base v l := ho.keep fun k hk => h.block k (by have := (ho.lt k hk).1; omega) (ho.lt k hk).2
end
theorem LpRet.lpc {w : World} {base : Nat} {e : Ending} {A : List (List Int)} {B : List Int} {C : List (Int × Int)} {ok : Bool} (h : LpRet w base e A B C ok) :
 ∃ a na ca b nb cb c nc cc, e = .returned (.tuple #[lpW a na ca b nb cb c nc cc, .bool ok]) ∧ LpC w a na ca b nb cb c nc cc A B C := by
 obtain ⟨va, vb, vc, vs, rfl, h1, h2, h3, h4, h5⟩ := h
 obtain ⟨a, na, ca, rfl, _⟩ := h1.var
 obtain ⟨b, nb, cb, rfl, _⟩ := h3.var
 obtain ⟨c, nc, cc, rfl, _⟩ := h4.var
 exact ⟨_, _, _, _, _, _, _, _, _, rfl, (show OwnSS w base (.slice a na ca) A from ⟨vs, h1, h2⟩).intss, h3.ints, h4.rats⟩
theorem OwnG.fixs {w : World} {base : Nat} {a : Option Addr} {n cap : Nat} {L : List (Int × Int × Int)} (h : OwnG fixE 79 w base (.slice a n cap) L) : Fixs w a n cap L := h.slc.fixs
theorem fx_snoc (x : Int) (P : List (Int × Int × Int)) (t : Int × Int × Int) : (x :: P.map fun f => f.1) ++ [t.1] = x :: (P ++ [t]).map fun f => f.1 := by simp
theorem fix_bd {V : List Int} {L : List (Int × Int × Int)} {s : Int} (hs : s ≤ 1000) (h : ∀ f ∈ L, f.1 ≤ 1000) : ∀ k : Nat, (s :: L.map (·.1))[k]?.getD 0 ≤ 9223372036854775807 := by
 intro k
 by_cases hk : k < (s :: L.map (·.1)).length
 ·rw [List.getElem?_eq_getElem hk, Option.getD_some]
  have hm := List.getElem_mem hk
  rcases List.mem_cons.1 hm with e | e
  ·rw [e]; omega
  ·obtain ⟨f, hf, he⟩ := List.mem_map.1 e
   rw [← he]; have := h f hf; omega
 ·rw [List.getElem?_eq_none (by omega)]; decide
end Go.Proofs.YthjjfkeacobikaaGreat
