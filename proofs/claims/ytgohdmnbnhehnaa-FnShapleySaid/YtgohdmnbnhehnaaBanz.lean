/- BanzhafValue on both sides. -/
import Derived.Test.YtgohdmnbnhehnaaAvg
namespace Go.Proofs.Ytgohdmnbnhehnaa
set_option linter.unusedVariables false
set_option linter.unusedSimpArgs false
set_option maxRecDepth 100000
open Go.RowKit

def one1 (_ : Nat) : Int := 1
def banzT (p : Int) (V : List Int) (k : Nat) : List (Int × Int) := if gameOk p V = true then avgT one1 V ((V.length : Int) / 2) k else []
def banzL (p : Int) (V : List Int) : List (Int × Int) := banzT p V p.toNat
theorem banzT_not {p : Int} {V : List Int} (k : Nat) (h : gameOk p V = false) : banzT p V k = [] := by simp [banzT, h]
theorem banzT_ok {p : Int} {V : List Int} (k : Nat) (h : gameOk p V = true) : banzT p V k = avgT one1 V ((V.length : Int) / 2) k := by simp [banzT, h]
theorem banzL_len (p : Int) (V : List Int) : (banzL p V).length ≤ 5 := by
  unfold banzL
  cases h : gameOk p V
  · rw [banzT_not _ h]; simp
  · obtain ⟨n, rfl, _, h5, _⟩ := gameOk_len h
    rw [banzT_ok _ h, avgT_len]; simpa using h5

set_option maxHeartbeats 4000000 in
theorem s_BanzhafValue {w : World} {x : Int} {a : Option Addr} {m cap : Nat} {V : List Int} (h : Ints w a m cap V) :
    Calls Try.prog 12 #[pair x a m cap] w fun e w' => (∃ v, e = .returned (.tuple #[v, .bool (gameOk x V)]) ∧ OwnR w' w.heap.size v (banzL x V)) ∧ Ext w w' := by
  have hi := h.alloc (.cells #[.int .i64 x, .slice a m cap] 26)
  have HX := Lib.hid (Ext.alloc w (.cells #[.int .i64 x, .slice a m cap] 26))
  have HL := Lib.hid h.hlen
  have HI := Lib.hid hi
  have HO := Lib.hid (OwnR.made (w.alloc (.cells #[.int .i64 x, .slice a m cap] 26)) (w.heap.size + 1) (by simp))
  have hmax := h.hmax
  have hcap := h.hcap
  clear h hi
  cases hv : gameOk x V
  · have HVV := Lib.hid hv
    clear hv
    go_enter Try.func12, Try.ntmps12
    go_wp2
    go_loopw [4, 5] (fun o i wr => ∃ (a1 : Option Addr) (n1 p1 : Nat), i = .int .i64 0 ∧ o = .slice a1 n1 p1 ∧ Hid (OwnR wr (w.heap.size + 1) (.slice a1 n1 p1) []) ∧ Hid (Ext (w.alloc (.cells #[.int .i64 x, .slice a m cap] 26)) wr)) (fun _ i _ => 0)
    case atStart => exact ⟨_, _, _, rfl, rfl, Lib.hid (by simpa using HO.out), Lib.hid (Ext.alloc _ _)⟩
    case round =>
      obtain ⟨a1, n1, p1, rfl, rfl, HO2, HX2⟩ := hrel
      have c0 : wr.cell? ⟨w.heap.size, 0, none⟩ = some (.int .i64 x) := HX2.out.cellSome (by simp)
      have c1 : wr.cell? ⟨w.heap.size, 1, none⟩ = some (.slice a m cap) := HX2.out.cellSome (by simp)
      have HI2 := Lib.hid (HI.out.ext HX2.out)
      have HV := Lib.hid (s_IsValidGame (p := x) HI2.out)
      rw [HVV.out] at HV
      by_cases hlt : (0 : Int) < x
      · go_wp2_with fail
        refine HV.out.mono ?_
        rintro e w2 ⟨rfl, hx2⟩
        have HI3 := Lib.hid (HI2.out.ext hx2)
        have HX3 := Lib.hid (HX2.out.trans hx2)
        have HO3 := Lib.hid (HO2.out.ext hx2)
        replace c0 := hx2.cellSome c0
        replace c1 := hx2.cellSome c1
        have HV := Lib.hid (s_IsValidGame (p := x) HI3.out)
        rw [HVV.out] at HV
        clear hx2
        go_wp2_with fail
        refine HV.out.mono ?_
        rintro e w3 ⟨rfl, hx3⟩
        go_wp2
        refine bodyPost_ret (v := .tuple #[.slice a1 n1 p1, .bool false]) (by simp [results, Try.results12, go_sem]) rfl ⟨⟨_, rfl, by unfold banzL; rw [banzT_not _ HVV.out]; exact (HO3.out.ext hx3).mono (by omega)⟩, HX.out.trans (HX3.out.trans hx3)⟩
      · go_wp2_with fail
        refine HV.out.mono ?_
        rintro e w3 ⟨rfl, hx3⟩
        go_wp2
        refine bodyPost_ret (v := .tuple #[.slice a1 n1 p1, .bool false]) (by simp [results, Try.results12, go_sem]) rfl ⟨⟨_, rfl, by unfold banzL; rw [banzT_not _ HVV.out]; exact (HO2.out.ext hx3).mono (by omega)⟩, HX.out.trans (HX2.out.trans hx3)⟩
  obtain ⟨n, rfl, h1, h5, hlen, _, hbd⟩ := gameOk_len hv
  have HVV := Lib.hid hv
  have hm : m = cN n := by have := HL.out; omega
  have hN := cN_le n h5
  have HM := Lib.hid hm
  have HBD := Lib.hid hbd
  have hm32 : m ≤ 32 := by omega
  clear hv hlen hbd hm hN
  go_enter Try.func12, Try.ntmps12
  go_wp2
  go_loopw [4, 5] (fun o i wr => ∃ (k : Nat) (a1 : Option Addr) (n1 p1 : Nat), k ≤ n ∧ i = .int .i64 (k : Int) ∧ o = .slice a1 n1 p1 ∧ Hid (OwnR wr (w.heap.size + 1) (.slice a1 n1 p1) (banzT (n : Int) V k)) ∧ Hid (Ext (w.alloc (.cells #[.int .i64 (n : Int), .slice a m cap] 26)) wr)) (fun _ i _ => n - (intOf i).toNat)
  case atStart => exact ⟨0, _, _, _, Nat.zero_le _, rfl, rfl, Lib.hid (by rw [banzT_ok _ HVV.out, avgT_zero]; simpa using HO.out), Lib.hid (Ext.alloc _ _)⟩
  case round =>
    obtain ⟨k, a1, n1, p1, hk, rfl, rfl, HO1, HX1⟩ := hrel
    have c0 : wr.cell? ⟨w.heap.size, 0, none⟩ = some (.int .i64 (n : Int)) := HX1.out.cellSome (by simp)
    have c1 : wr.cell? ⟨w.heap.size, 1, none⟩ = some (.slice a m cap) := HX1.out.cellSome (by simp)
    have HI1 := Lib.hid (HI.out.ext HX1.out)
    have HV := Lib.hid (s_IsValidGame (p := (n : Int)) HI1.out)
    rw [HVV.out] at HV
    by_cases hlt : k < n
    · go_wp2_with fail
      refine HV.out.mono ?_
      rintro e w2 ⟨rfl, hx2⟩
      have HI2 := Lib.hid (HI1.out.ext hx2)
      have HX2 := Lib.hid (HX1.out.trans hx2)
      have HO2 := Lib.hid (HO1.out.ext hx2)
      replace c0 := hx2.cellSome c0
      replace c1 := hx2.cellSome c1
      clear hx2
      have hin : inB (k : Int) 0 4 = true := by unfold inB; simp; omega
      have HC := Lib.hid (cntC_bit (k : Int) hin)
      clear hin
      go_wp2
      go_loopw [6, 7] (fun t i wr2 => ∃ (j : Nat), j ≤ m ∧ i = .int .i64 (j : Int) ∧ t = .int .i64 (avgS one1 V k j) ∧ Hid (Ext w2 wr2)) (fun _ i _ => m - (intOf i).toNat)
      case atStart => exact ⟨0, Nat.zero_le _, rfl, rfl, Lib.hid (Ext.refl _)⟩
      case round =>
        obtain ⟨j, hj, rfl, ht, HX3⟩ := hrel
        obtain ⟨T, hT⟩ : ∃ T, T = avgS one1 V k j := ⟨_, rfl⟩
        have hTb := avgS_bd HBD.out (fun i => by unfold one1; omega) k j (wt := one1)
        rw [← hT] at ht hTb
        subst ht
        have HT := Lib.hid hT
        clear hT
        have c1' := HX3.out.cellSome c1
        by_cases hlt2 : j < m
        · have HI3 := Lib.hid (HI2.out.ext HX3.out)
          obtain ⟨b, off, he, hc⟩ := HI3.out.at hlt2
          have hv1 := getD_bd HBD.out j
          obtain ⟨v1, hy1⟩ : ∃ y, y = V[j]?.getD 0 := ⟨_, rfl⟩
          rw [← hy1] at hc hv1
          have HY1 := Lib.hid hy1
          clear hy1
          subst he
          have hb := hasP_bit (j : Int) k (by omega) (by omega)
          cases hbit : bit (j : Int) k
          · rw [hbit] at hb
            have HB := Lib.hid hbit
            have HBB := Lib.hid hb
            have hu := up_lt h5 (by rw [← HM.out]; exact hlt2) hlt hbit
            obtain ⟨u, hu'⟩ : ∃ u : Nat, u = j + 2 ^ k := ⟨_, rfl⟩
            have hui : (j : Int) + 2 ^ k = (u : Int) := by rw [hu']; simp
            have hum : u < m := by rw [HM.out, hu']; exact hu
            obtain ⟨b2, off2, he2, hc2⟩ := HI3.out.at hum
            simp only [Option.some.injEq, Addr.mk.injEq, and_true] at he2
            obtain ⟨rfl, rfl⟩ := he2
            have hv2 := getD_bd HBD.out u
            obtain ⟨v2, hy2⟩ : ∃ y, y = V[u]?.getD 0 := ⟨_, rfl⟩
            rw [← hy2] at hc2 hv2
            have HY2 := Lib.hid hy2
            have HU := Lib.hid hu'
            have e1 : IntKind.i64.wrap (T + v2) = T + v2 := by rw [IntKind.wrap_i64]; omega
            have e2 : IntKind.i64.wrap (T + v2 - v1) = T + v2 - v1 := by rw [IntKind.wrap_i64]; omega
            have e3 : IntKind.i64.wrap ((j : Int) + 2 ^ k) = (u : Int) := by rw [hui, IntKind.wrap_i64]; omega
            have hk2 : Ext wr wr.drew := Ext.drew wr
            have hum32 : u ≤ 32 := by omega
            clear hy2 hbit hu hui hu' hb hv1 hv2 hTb
            go_wp2_with (first | (go_at_call 64; refine (s_HasPlayer _ _ _ (by omega)).mono ?_; rw [HBB.out]; rintro e w' ⟨rfl, rfl⟩))
            go_region_held3 (fun w' => w'.cell? ⟨w.heap.size, 1, none⟩ = some (.slice (some ⟨b, off, none⟩) m cap) ∧ w'.cell? ⟨b, off + u, none⟩ = some (.int .i64 v2) ∧ w'.cell? ⟨b, off + j, none⟩ = some (.int .i64 v1) ∧ Ext wr w')
              (exact ⟨hk2.cellSome c1', hk2.cellSome hc2, hk2.cellSome hc, hk2⟩)
              (first
                | (go_at_call 65; refine (s_l2Bit _ _).mono ?_; rw [HC.out]; rintro e w' ⟨rfl, rfl⟩))
            go_wp2
            go_roundw
            case rel => exact ⟨j + 1, by omega, by go_num, by unfold avgS; rw [HB.out, ← HT.out, ← HU.out, ← HY2.out, ← HY1.out]; simp [one1]; omega, Lib.hid (HX3.out.trans hk2)⟩
            case measure => simp [intOf]; omega
          · rw [hbit] at hb
            have HB := Lib.hid hbit
            have HBB := Lib.hid hb
            clear hbit hb
            go_wp2_with (first | (go_at_call 64; refine (s_HasPlayer _ _ _ (by omega)).mono ?_; rw [HBB.out]; rintro e w' ⟨rfl, rfl⟩))
            go_roundw
            case rel => exact ⟨j + 1, by omega, by go_num, by unfold avgS; rw [HB.out, ← HT.out]; simp, HX3⟩
            case measure => simp [intOf]; omega
        · have hjm : j = m := by omega
          subst hjm
          obtain ⟨p, q, ok, hpq⟩ : ∃ p q ok, ratOf T ((j : Int) / 2) = ((p, q), ok) := ⟨_, _, _, rfl⟩
          have HPQ := Lib.hid hpq
          have X12 := Lib.hid (HX2.out.trans HX3.out)
          have HO3 := Lib.hid (HO2.out.ext HX3.out)
          have hsz2 : w.heap.size + 1 ≤ wr.heap.size := by have := X12.out.size; simpa using this
          clear hpq
          go_wp2_with fail
          refine (s_RatOf _ _ _).mono ?_
          rw [HPQ.out]
          rintro e w3 ⟨rfl, hx3⟩
          have X3 := Lib.hid (X12.out.trans hx3)
          have HO4 := Lib.hid (HO3.out.ext hx3)
          have hsz3 := hx3.size
          clear hx3
          go_wp2_with (first
            | (at_builtin; refine append_rats rfl _ _ rfl (w.heap.size + 1) (.slice a1 n1 p1) _ rfl ((HO4.out.ext (Ext.alloc _ _)).ext (Ext.alloc _ _)) _ 1 _ [(p, q)] rfl (Rats.one' _ _ _ _ _ (by simp)) (by rw [banzT_ok _ HVV.out, avgT_len]; omega) (by simp; omega) ?_; intro v2 w4 ho hg hnear; obtain ⟨a2, n2, c2, rfl, HN2⟩ := ho.var; have HO5 := Lib.hid ho; have HG4 := Lib.hid hg; clear ho hg hnear))
          go_roundw
          case rel =>
            refine ⟨k + 1, a2, n2, c2, by omega, by go_num, rfl, Lib.hid ?_, Lib.hid ?_⟩
            · have := HO5.out
              rw [banzT_ok _ HVV.out] at this ⊢
              rw [HL.out] at this
              rw [avgT_succ, avgR, HL.out, ← HT.out, HPQ.out]; exact this
            · exact ext_grown (X3.out.trans ((Ext.alloc _ _).trans (Ext.alloc _ _))) HG4.out (fun j hj => by have := (HO4.out.lt j hj).1; simpa using this)
          case measure => simp [intOf]; omega
    · go_wp2_with fail
      refine HV.out.mono ?_
      rintro e w3 ⟨rfl, hx3⟩
      go_wp2
      have hkn : k = n := by omega
      subst hkn
      refine bodyPost_ret (v := .tuple #[.slice a1 n1 p1, .bool true]) (by simp [results, Try.results12, go_sem]) rfl ⟨⟨_, rfl, by unfold banzL; exact (HO1.out.ext hx3).mono (by omega)⟩, HX.out.trans (HX1.out.trans hx3)⟩

end Go.Proofs.Ytgohdmnbnhehnaa
