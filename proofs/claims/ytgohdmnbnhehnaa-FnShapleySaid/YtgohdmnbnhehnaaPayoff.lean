/- Payoffs: the reference's test. -/
import Derived.Test.YtgohdmnbnhehnaaPay
import Derived.Test.YtgohdmnbnhehnaaAvg
namespace Go.Proofs.Ytgohdmnbnhehnaa
set_option linter.unusedVariables false
set_option linter.unusedSimpArgs false
set_option maxRecDepth 100000
open Go.RowKit

/-- x divides what all players earn. -/
def payP (p : Int) (V : List Int) (X : List (Int × Int)) : Bool :=
  gameOk p V && (decide ((X.length : Int) = p) && (allV X && decide (shareP X (V.length - 1) = some (grandV p V, 1))))

set_option maxHeartbeats 4000000 in
theorem s_IsPayoff {w : World} {p : Int} {a : Option Addr} {n cap : Nat} {V : List Int} (h : Ints w a n cap V) {b : Option Addr} {m mcap : Nat} {X : List (Int × Int)} (hx : Rats w b m mcap X) :
    Calls Try.prog 21 #[pair p a n cap, .slice b m mcap] w fun e w' => e = .returned (.bool (payP p V X)) ∧ Ext w w' := by
  have HX := Lib.hid (Ext.alloc w (.cells #[.int .i64 p, .slice a n cap] 26))
  have HL := Lib.hid h.hlen
  have HLX := Lib.hid hx.hlen
  have HI := Lib.hid (h.ext HX.out)
  have HR := Lib.hid (hx.ext HX.out)
  have hxcap := hx.hcap
  have hxmax := hx.hmax
  have HV := Lib.hid (s_IsValidGame (p := p) HI.out)
  clear h hx
  cases hv : gameOk p V
  · rw [hv] at HV
    have HP := Lib.hid (show payP p V X = false by unfold payP; rw [hv]; rfl)
    clear hv
    go_enter Try.func21, Try.ntmps21
    go_wp2_with fail
    refine HV.out.mono ?_
    rintro e w1 ⟨rfl, hx⟩
    have X1 := Lib.hid (HX.out.trans hx)
    clear hx
    go_wp2_with fail
    go_ret
    exact ⟨ret_bool HP.out.symm, X1.out⟩
  rw [hv] at HV
  obtain ⟨q, rfl, h1, h5, hlen, _, hbd⟩ := gameOk_len hv
  have HVV := Lib.hid hv
  have hN := cN_le q h5
  obtain ⟨u, rfl⟩ : ∃ u, n = u + 1 := ⟨n - 1, by have := HL.out; omega⟩
  have hu32 : u ≤ 31 := by have := HL.out; omega
  have HGB := Lib.hid (show -500 ≤ grandV (q : Int) V ∧ grandV (q : Int) V ≤ 500 by rw [grandV_ok hv]; exact getD_bd hbd _)
  clear hv hlen hbd hN
  by_cases hml : m = q
  · subst hml
    have HAV := Lib.hid (fun (w' : World) (hx : Ext (w.alloc (.cells #[.int .i64 (m : Int), .slice a (u + 1) cap] 26)) w') => s_AllValid (HR.out.ext hx))
    cases hav : allV X
    · have HP := Lib.hid (show payP (m : Int) V X = false by unfold payP; rw [hav]; simp)
      rw [hav] at HAV
      clear hav
      go_enter Try.func21, Try.ntmps21
      go_wp2_with fail
      refine HV.out.mono ?_
      rintro e w1 ⟨rfl, hx⟩
      have c0 : w1.cell? ⟨w.heap.size, 0, none⟩ = some (.int .i64 (m : Int)) := hx.cellSome (by simp)
      have hmm : ((m : Int) != (m : Int)) = false := by simp
      have HA1 := Lib.hid (HAV.out w1 hx)
      have X1 := Lib.hid (HX.out.trans hx)
      clear hx
      go_wp2_with fail
      refine HA1.out.mono ?_
      rintro e w2 ⟨rfl, hx2⟩
      have X2 := Lib.hid (X1.out.trans hx2)
      clear hx2
      go_wp2_with fail
      go_ret
      exact ⟨ret_bool HP.out.symm, X2.out⟩
    · rw [hav] at HAV
      have HAVV := Lib.hid hav
      clear hav
      go_enter Try.func21, Try.ntmps21
      go_wp2_with fail
      refine HV.out.mono ?_
      rintro e w1 ⟨rfl, hx⟩
      have c0 : w1.cell? ⟨w.heap.size, 0, none⟩ = some (.int .i64 (m : Int)) := hx.cellSome (by simp)
      have c1 : w1.cell? ⟨w.heap.size, 1, none⟩ = some (.slice a (u + 1) cap) := hx.cellSome (by simp)
      have hmm : ((m : Int) != (m : Int)) = false := by simp
      have HA1 := Lib.hid (HAV.out w1 hx)
      have X1 := Lib.hid hx
      clear hx
      go_wp2_with fail
      refine HA1.out.mono ?_
      rintro e w2 ⟨rfl, hx2⟩
      have X2 := Lib.hid (X1.out.trans hx2)
      replace c0 := hx2.cellSome c0
      replace c1 := hx2.cellSome c1
      clear hx2
      have hlen1 : ((u + 1 : Nat) : Int) - 1 = (u : Int) := by omega
      have HSH := Lib.hid (s_ShareOf (HR.out.ext X2.out) u (by omega))
      have HPE := Lib.hid (show payP (m : Int) V X = decide (shareP X u = some (grandV (m : Int) V, 1)) by
        unfold payP; rw [HVV.out, HAVV.out, decide_eq_true (by rw [HLX.out]), HL.out]; rfl)
      cases hsh : shareP X u with
      | none =>
        have HF := Lib.hid (show payP (m : Int) V X = false by rw [HPE.out, hsh]; rfl)
        rw [hsh] at HSH
        clear hsh
        go_wp2_with fail
        refine HSH.out.mono ?_
        rintro e w3 ⟨rfl, hx3⟩
        have X3 := Lib.hid ((HX.out.trans X2.out).trans hx3)
        clear hx3
        go_wp2_with fail
        go_quiet (fail)
        go_wp2_with fail
        go_ret
        exact ⟨ret_bool HF.out.symm, (X3.out.trans (Ext.alloc _ _)).trans (Drew.ext ⟨_, rfl⟩)⟩
      | some r =>
        obtain ⟨r1, r2⟩ := r
        have HF := Lib.hid (show payP (m : Int) V X = (decide (r1 = grandV (m : Int) V) && decide (r2 = 1)) by
          rw [HPE.out, hsh]; simp)
        rw [hsh] at HSH
        clear hsh
        go_wp2_with fail
        refine HSH.out.mono ?_
        rintro e w3 ⟨rfl, hx3⟩
        replace c0 := hx3.cellSome c0
        replace c1 := hx3.cellSome c1
        have X3 := Lib.hid (X2.out.trans hx3)
        clear hx3
        obtain ⟨E, hE⟩ : ∃ E, E = w3.alloc (.cells #[.int .i64 r1, .int .i64 r2] 34) := ⟨_, rfl⟩
        have hxE : Ext w3 E := by rw [hE]; exact Ext.alloc _ _
        have XE := Lib.hid (X3.out.trans hxE)
        have e0 := hxE.cellSome c0
        have e1 := hxE.cellSome c1
        have b0 : E.cell? ⟨w3.heap.size, 0, none⟩ = some (.int .i64 r1) := by rw [hE]; simp
        have b1 : E.cell? ⟨w3.heap.size, 1, none⟩ = some (.int .i64 r2) := by rw [hE]; simp
        have HGV := Lib.hid (fun (w' : World) (hx : Ext E w') => s_GrandValue (p := (m : Int)) ((HI.out.ext XE.out).ext hx))
        obtain ⟨G, hG⟩ : ∃ G, G = grandV (m : Int) V := ⟨_, rfl⟩
        rw [← hG] at HF HGV
        clear hG
        go_upto_region 4 with fail
        rw [← hE]
        clear hE c0 c1 hxE
        have hk2 : Ext E E.drew := Ext.drew E
        have HKEEP := Lib.hid (fun (w' : World) (h : Ext E w') => (⟨h.cellSome e0, h.cellSome e1, h.cellSome b0, h.cellSome b1, h⟩ : w'.cell? ⟨w.heap.size, 0, none⟩ = some (.int .i64 (m : Int)) ∧ w'.cell? ⟨w.heap.size, 1, none⟩ = some (.slice a (u + 1) cap) ∧ w'.cell? ⟨w3.heap.size, 0, none⟩ = some (.int .i64 r1) ∧ w'.cell? ⟨w3.heap.size, 1, none⟩ = some (.int .i64 r2) ∧ Ext E w'))
        cases hx1 : (r1 == G)
        all_goals
          cases hy1 : (r2 == 1)
        all_goals
          have HF2 := Lib.hid (show payP (m : Int) V X = ((r1 == G) && (r2 == 1)) by rw [HF.out]; rw [Bool.eq_iff_iff]; simp)
          rw [hx1, hy1] at HF2
          go_region_held3 (fun w' => w'.cell? ⟨w.heap.size, 0, none⟩ = some (.int .i64 (m : Int)) ∧ w'.cell? ⟨w.heap.size, 1, none⟩ = some (.slice a (u + 1) cap) ∧ w'.cell? ⟨w3.heap.size, 0, none⟩ = some (.int .i64 r1) ∧ w'.cell? ⟨w3.heap.size, 1, none⟩ = some (.int .i64 r2) ∧ Ext E w')
            (first
              | with_reducible exact HKEEP.out _ hk2)
            (first
              | (go_at_call 75
                 (with_reducible refine (HGV.out _ hk2).mono ?_)
                 rintro e w4 ⟨rfl, hx4⟩
                 have hk2 : Ext E w4 := hk2.trans hx4)
              | (go_at_call 74
                 (with_reducible refine (s_l3Int _ _).mono ?_)
                 rintro e w5 ⟨rfl, hx5⟩
                 have hk2 : Ext E w5 := hk2.trans hx5)
              | fail)
          all_goals
            go_wp2_with fail
            go_ret
            exact ⟨ret_bool (by rw [HF2.out]; rfl), HX.out.trans (XE.out.trans hk2)⟩
  · have HP := Lib.hid (show payP (q : Int) V X = false by unfold payP; rw [decide_eq_false (by rw [HLX.out]; omega : ¬ (X.length : Int) = (q : Int))]; simp)
    have hmm : ((m : Int) != (q : Int)) = true := by simp; omega
    go_enter Try.func21, Try.ntmps21
    go_wp2_with fail
    refine HV.out.mono ?_
    rintro e w1 ⟨rfl, hx⟩
    have c0 : w1.cell? ⟨w.heap.size, 0, none⟩ = some (.int .i64 (q : Int)) := hx.cellSome (by simp)
    have X1 := Lib.hid (HX.out.trans hx)
    clear hx
    go_wp2_with fail
    go_ret
    exact ⟨ret_bool HP.out.symm, X1.out⟩

end Go.Proofs.Ytgohdmnbnhehnaa
