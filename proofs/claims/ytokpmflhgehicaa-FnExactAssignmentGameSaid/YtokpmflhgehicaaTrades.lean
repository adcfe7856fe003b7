/- BestTrades on both sides. -/
import Derived.Test.YtokpmflhgehicaaTradesS
namespace Go.Proofs.Ytokpmflhgehicaa
set_option linter.unusedVariables false
set_option linter.unusedSimpArgs false
set_option maxRecDepth 100000
open Go.RowKit

def tradeOk (x y : Int) (G : List (List Int)) (s : Int) : Bool := validM x y G && inB s 0 (cntC (x + y) - 1)
def tradeR (x y : Int) (G : List (List Int)) (s : Int) : List Int × Int := if tradeOk x y G s = true then bestF x.toNat y.toNat G s.toNat x.toNat [] else ([], 0)
theorem tradeR_not {x y : Int} {G : List (List Int)} {s : Int} (h : tradeOk x y G s = false) : tradeR x y G s = ([], 0) := by simp [tradeR, h]
theorem tradeR_ok {S B s : Nat} {G : List (List Int)} (h : tradeOk (S : Int) (B : Int) G (s : Int) = true) : tradeR (S : Int) (B : Int) G (s : Int) = bestF S B G s S [] := by simp [tradeR, h]
theorem tradeR_len (x y : Int) (G : List (List Int)) (s : Int) : (tradeR x y G s).1.length ≤ 5 := by
  cases h : tradeOk x y G s
  · rw [tradeR_not h]; simp
  · have hv : validM x y G = true := by unfold tradeOk at h; simp only [Bool.and_eq_true] at h; exact h.1
    obtain ⟨S, B, rfl, rfl, hM⟩ := validM_good hv
    unfold tradeR
    rw [if_pos h]
    have := (bestF_bd ((S : Int).toNat) ((B : Int).toNat) G s.toNat hM.bd ((S : Int).toNat) []).1
    have := hM.sb
    omega

set_option maxHeartbeats 1000000 in
theorem s_BestTrades {w : World} {x y s : Int} {a : Option Addr} {n cap : Nat} {G : List (List Int)} (h : IntSS w a n cap G) :
    Calls Try.prog 29 #[triple x y a n cap, .int .i64 s] w fun e w' => (∃ v, e = .returned (.tuple #[v, .int .i64 (tradeR x y G s).2, .bool (tradeOk x y G s)]) ∧ OwnI w' w.heap.size v (tradeR x y G s).1) ∧ Ext w w' := by
  have HX := Lib.hid (Ext.alloc w (.cells #[.int .i64 x, .int .i64 y, .slice a n cap] 53))
  have HG := Lib.hid (h.ext HX.out)
  have HV := Lib.hid (s_IsValidMarket (x := x) (y := y) HG.out)
  clear h
  cases hv : validM x y G
  · have HN := Lib.hid (show tradeOk x y G s = false by simp [tradeOk, hv])
    rw [hv] at HV
    clear hv
    go_enter Try.func29, Try.ntmps29
    go_wp2_with fail
    refine HV.out.mono ?_
    rintro e w1 ⟨rfl, hx⟩
    go_wp2
    rw [tradeR_not HN.out, HN.out]
    have hs := hx.size
    simp at hs
    refine bodyPost_ret (v := .tuple #[.slice (some ⟨w1.heap.size, 0, none⟩) 0 0, .int .i64 0, .bool false]) (by simp [results, Try.results29, go_sem]) rfl ⟨⟨_, rfl, OwnI.made' _ _ _ rfl (by omega)⟩, HX.out.trans (hx.trans (Ext.alloc _ _))⟩
  · rw [hv] at HV
    obtain ⟨S, B, rfl, rfl, hM⟩ := validM_good hv
    have hsb := hM.sb
    have hcn := cntC_nat (S + B) hsb
    have hN := cN_le (S + B) hsb
    have hcn' : cntC ((S : Int) + (B : Int)) = (cN (S + B) : Int) := by rw [← hcn]; simp
    have HC := Lib.hid hcn'
    have HM := Lib.hid hM
    cases hin : inB s 0 ((cN (S + B) : Int) - 1)
    · have HIN := Lib.hid hin
      have HN := Lib.hid (show tradeOk (S : Int) (B : Int) G s = false by simp [tradeOk, hv, hcn', hin])
      clear hv hin hcn' hcn hM
      go_enter Try.func29, Try.ntmps29
      go_wp2_with fail
      refine HV.out.mono ?_
      rintro e w1 ⟨rfl, hx⟩
      have c0 : w1.cell? ⟨w.heap.size, 0, none⟩ = some (.int .i64 (S : Int)) := hx.cellSome (by simp)
      have c1 : w1.cell? ⟨w.heap.size, 1, none⟩ = some (.int .i64 (B : Int)) := hx.cellSome (by simp)
      go_wp2_with (first
        | (go_at_call 93; refine (s_CountCoalitions _ _).mono ?_; rw [HC.out]; rintro e w' ⟨rfl, rfl⟩)
        | (go_at_call 92; refine (s_l1In _ _ _ _).mono ?_; rw [HIN.out]; rintro e w' ⟨rfl, rfl⟩))
      rw [tradeR_not HN.out, HN.out]
      have hs := hx.size
      simp at hs
      refine bodyPost_ret (v := .tuple #[.slice (some ⟨w1.heap.size, 0, none⟩) 0 0, .int .i64 0, .bool false]) (by simp [results, Try.results29, go_sem]) rfl ⟨⟨_, rfl, OwnI.made' _ _ _ rfl (by omega)⟩, HX.out.trans (hx.trans (Ext.alloc _ _))⟩
    · have HIN := Lib.hid hin
      have HOK := Lib.hid (show tradeOk (S : Int) (B : Int) G s = true by simp [tradeOk, hv, hcn', hin])
      obtain ⟨t, rfl⟩ : ∃ t : Nat, s = t := ⟨s.toNat, by unfold inB at hin; simp at hin; omega⟩
      have ht : t < 32 := by unfold inB at hin; simp at hin; omega
      clear hv hin hcn' hcn hM
      go_enter Try.func29, Try.ntmps29
      go_wp2_with fail
      refine HV.out.mono ?_
      rintro e w1 ⟨rfl, hx⟩
      have c0 : w1.cell? ⟨w.heap.size, 0, none⟩ = some (.int .i64 (S : Int)) := hx.cellSome (by simp)
      have c1 : w1.cell? ⟨w.heap.size, 1, none⟩ = some (.int .i64 (B : Int)) := hx.cellSome (by simp)
      have c2 : w1.cell? ⟨w.heap.size, 2, none⟩ = some (.slice a n cap) := hx.cellSome (by simp)
      have hlt1 : w.heap.size < w1.heap.size := World.block_lt_of_cell? _ _ c0
      have X1 := Lib.hid (HX.out.trans hx)
      have HG1 := Lib.hid ((HG.out.ext hx).ext (Ext.alloc _ (.cells #[] 3)))
      clear hx
      go_wp2_with (first
        | (go_at_call 93; refine (s_CountCoalitions _ _).mono ?_; rw [HC.out]; rintro e w' ⟨rfl, rfl⟩)
        | (go_at_call 92; refine (s_l1In _ _ _ _).mono ?_; rw [HIN.out]; rintro e w' ⟨rfl, rfl⟩)
        | (go_at_call 94; refine (s_l19Best HM.out ht S 0 0 rfl (by omega) _ a n cap _ 0 0 [] HG1.out (OwnI.made' w1 0 _ rfl (by omega)).ints (by simp)).mono ?_; rw [← tradeR_ok HOK.out]; rintro e w2 ⟨⟨v, rfl, ho⟩, hx⟩))
      have hs := X1.out.size
      rw [HOK.out]
      refine bodyPost_ret (v := .tuple #[v, .int .i64 (tradeR (S : Int) (B : Int) G (t : Int)).2, .bool true]) (by simp [results, Try.results29, go_sem]) rfl ⟨⟨_, rfl, ho.mono (by simp; omega)⟩, X1.out.trans ((Ext.alloc _ _).trans hx)⟩

end Go.Proofs.Ytokpmflhgehicaa
