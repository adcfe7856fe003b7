import Derived.Test.YtgohdmnbnhehnaaPlAllG7
import Derived.Test.YtgohdmnbnhehnaaPlAllG11
import Derived.Test.YtgohdmnbnhehnaaPlAllG8
import Derived.Deep.DeepCutAuto
namespace Go.Proofs.Ytgohdmnbnhehnaa
set_option linter.unusedVariables false
set_option linter.unusedSimpArgs false
set_option maxRecDepth 100000
open Go.RowKit
def one1 (_ : Nat) : Int := 1
def banzT (p : Int) (V : List Int) (k : Nat) : List (Int × Int) := if gameOk p V = true then avgT one1 V ((V.length : Int) / 2) k else []
def banzL (p : Int) (V : List Int) : List (Int × Int) := banzT p V p.toNat
theorem banzT_not {p : Int} {V : List Int} (k : Nat) (h : gameOk p V = false) : banzT p V k = [] := by simp [banzT, h]
theorem banzT_ok {p : Int} {V : List Int} (k : Nat) (h : gameOk p V = true) : banzT p V k = avgT one1 V ((V.length : Int) / 2) k := by simp [banzT, h]
set_option maxHeartbeats 4000000 in
theorem s_BanzhafValue {w : World} {x : Int} {a : Option Addr} {m cap : Nat} {V : List Int} (h : Ints w a m cap V) :
    Calls Try.prog 12 #[pair x a m cap] w fun e w' => (∃ v, e = .returned (.tuple #[v, .bool (gameOk x V)]) ∧ OwnR w' w.heap.size v (banzL x V)) ∧ Ext w w' := by
  have hi := h.alloc (.cells #[.int .i64 x, .slice a m cap] 26)
  have HX := Lib.hid (Ext.alloc w (.cells #[.int .i64 x, .slice a m cap] 26))
  have HL := Lib.hid h.hlen
  have HI := Lib.hid hi
  have HO := Lib.hid (OwnR.made (w.alloc (.cells #[.int .i64 x, .slice a m cap] 26)) (w.heap.size + 1) (by simp))
  have hmax := h.hmax
  have hcap := h.hcap
  clear h hi
  cases hv : gameOk x V
  · have HVV := Lib.hid hv
    clear hv
    go_enter Try.func12, Try.ntmps12
    go_wp2
    go_loopw [4, 5] (fun o i wr => ∃ (a1 : Option Addr) (n1 p1 : Nat), i = .int .i64 0 ∧ o = .slice a1 n1 p1 ∧ Hid (OwnR wr (w.heap.size + 1) (.slice a1 n1 p1) []) ∧ Hid (Ext (w.alloc (.cells #[.int .i64 x, .slice a m cap] 26)) wr)) (fun _ i _ => 0)
    case atStart => exact ⟨_, _, _, rfl, rfl, Lib.hid (by simpa using HO.out), Lib.hid (Ext.alloc _ _)⟩
    case round =>
      obtain ⟨a1, n1, p1, rfl, rfl, HO2, HX2⟩ := hrel
      have c0 : wr.cell? ⟨w.heap.size, 0, none⟩ = some (.int .i64 x) := HX2.out.cellSome (by simp)
      have c1 : wr.cell? ⟨w.heap.size, 1, none⟩ = some (.slice a m cap) := HX2.out.cellSome (by simp)
      have HI2 := Lib.hid (HI.out.ext HX2.out)
      have HV := Lib.hid (s_IsValidGame (p := x) HI2.out)
      rw [HVV.out] at HV
      by_cases hlt : (0 : Int) < x
      · go_wp2_with fail
        refine HV.out.mono ?_
        rintro e w2 ⟨rfl, hx2⟩
        have HI3 := Lib.hid (HI2.out.ext hx2)
        have HX3 := Lib.hid (HX2.out.trans hx2)
        have HO3 := Lib.hid (HO2.out.ext hx2)
        replace c0 := hx2.cellSome c0
        replace c1 := hx2.cellSome c1
        have HV := Lib.hid (s_IsValidGame (p := x) HI3.out)
        rw [HVV.out] at HV
        clear hx2
        go_wp2_with fail
        refine HV.out.mono ?_
        rintro e w3 ⟨rfl, hx3⟩
        go_wp2
        refine bodyPost_ret (v := .tuple #[.slice a1 n1 p1, .bool false]) (by simp [results, Try.results12, go_sem]) rfl ⟨⟨_, rfl, by unfold banzL; rw [banzT_not _ HVV.out]; exact (HO3.out.ext hx3).mono (by omega)⟩, HX.out.trans (HX3.out.trans hx3)⟩
      · go_wp2_with fail
        refine HV.out.mono ?_
        rintro e w3 ⟨rfl, hx3⟩
        go_wp2
        refine bodyPost_ret (v := .tuple #[.slice a1 n1 p1, .bool false]) (by simp [results, Try.results12, go_sem]) rfl ⟨⟨_, rfl, by unfold banzL; rw [banzT_not _ HVV.out]; exact (HO2.out.ext hx3).mono (by omega)⟩, HX.out.trans (HX2.out.trans hx3)⟩
  obtain ⟨n, rfl, h1, h5, hlen, _, hbd⟩ := gameOk_len hv
  have HVV := Lib.hid hv
  have hm : m = cN n := by have := HL.out; omega
  have hN := cN_le n h5
  have HM := Lib.hid hm
  have HBD := Lib.hid hbd
  have hm32 : m ≤ 32 := by omega
  clear hv hlen hbd hm hN
  go_enter Try.func12, Try.ntmps12
  go_wp2
  go_loopw [4, 5] (fun o i wr => ∃ (k : Nat) (a1 : Option Addr) (n1 p1 : Nat), k ≤ n ∧ i = .int .i64 (k : Int) ∧ o = .slice a1 n1 p1 ∧ Hid (OwnR wr (w.heap.size + 1) (.slice a1 n1 p1) (banzT (n : Int) V k)) ∧ Hid (Ext (w.alloc (.cells #[.int .i64 (n : Int), .slice a m cap] 26)) wr)) (fun _ i _ => n - (intOf i).toNat)
  case atStart => exact ⟨0, _, _, _, Nat.zero_le _, rfl, rfl, Lib.hid (by rw [banzT_ok _ HVV.out, avgT_zero]; simpa using HO.out), Lib.hid (Ext.alloc _ _)⟩
  case round =>
    obtain ⟨k, a1, n1, p1, hk, rfl, rfl, HO1, HX1⟩ := hrel
    have c0 : wr.cell? ⟨w.heap.size, 0, none⟩ = some (.int .i64 (n : Int)) := HX1.out.cellSome (by simp)
    have c1 : wr.cell? ⟨w.heap.size, 1, none⟩ = some (.slice a m cap) := HX1.out.cellSome (by simp)
    have HI1 := Lib.hid (HI.out.ext HX1.out)
    have HV := Lib.hid (s_IsValidGame (p := (n : Int)) HI1.out)
    rw [HVV.out] at HV
    by_cases hlt : k < n
    · go_wp2_with fail
      refine HV.out.mono ?_
      rintro e w2 ⟨rfl, hx2⟩
      have HI2 := Lib.hid (HI1.out.ext hx2)
      have HX2 := Lib.hid (HX1.out.trans hx2)
      have HO2 := Lib.hid (HO1.out.ext hx2)
      replace c0 := hx2.cellSome c0
      replace c1 := hx2.cellSome c1
      clear hx2
      have hin : inB (k : Int) 0 4 = true := by unfold inB; simp; omega
      have HC := Lib.hid (cntC_bit (k : Int) hin)
      clear hin
      go_wp2
      go_loopw [6, 7] (fun t i wr2 => ∃ (j : Nat), j ≤ m ∧ i = .int .i64 (j : Int) ∧ t = .int .i64 (avgS one1 V k j) ∧ Hid (Ext w2 wr2)) (fun _ i _ => m - (intOf i).toNat)
      case atStart => exact ⟨0, Nat.zero_le _, rfl, rfl, Lib.hid (Ext.refl _)⟩
      case round =>
        obtain ⟨j, hj, rfl, ht, HX3⟩ := hrel
        obtain ⟨T, hT⟩ : ∃ T, T = avgS one1 V k j := ⟨_, rfl⟩
        have hTb := avgS_bd HBD.out (fun i => by unfold one1; omega) k j (wt := one1)
        rw [← hT] at ht hTb
        subst ht
        have HT := Lib.hid hT
        clear hT
        have c1' := HX3.out.cellSome c1
        by_cases hlt2 : j < m
        · have HI3 := Lib.hid (HI2.out.ext HX3.out)
          obtain ⟨b, off, he, hc⟩ := HI3.out.at hlt2
          have hv1 := getD_bd HBD.out j
          obtain ⟨v1, hy1⟩ : ∃ y, y = V[j]?.getD 0 := ⟨_, rfl⟩
          rw [← hy1] at hc hv1
          have HY1 := Lib.hid hy1
          clear hy1
          subst he
          have hb := hasP_bit (j : Int) k (by omega) (by omega)
          cases hbit : bit (j : Int) k
          · rw [hbit] at hb
            have HB := Lib.hid hbit
            have HBB := Lib.hid hb
            have hu := up_lt h5 (by rw [← HM.out]; exact hlt2) hlt hbit
            obtain ⟨u, hu'⟩ : ∃ u : Nat, u = j + 2 ^ k := ⟨_, rfl⟩
            have hui : (j : Int) + 2 ^ k = (u : Int) := by rw [hu']; simp
            have hum : u < m := by rw [HM.out, hu']; exact hu
            obtain ⟨b2, off2, he2, hc2⟩ := HI3.out.at hum
            simp only [Option.some.injEq, Addr.mk.injEq, and_true] at he2
            obtain ⟨rfl, rfl⟩ := he2
            have hv2 := getD_bd HBD.out u
            obtain ⟨v2, hy2⟩ : ∃ y, y = V[u]?.getD 0 := ⟨_, rfl⟩
            rw [← hy2] at hc2 hv2
            have HY2 := Lib.hid hy2
            have HU := Lib.hid hu'
            have e1 : IntKind.i64.wrap (T + v2) = T + v2 := by rw [IntKind.wrap_i64]; omega
            have e2 : IntKind.i64.wrap (T + v2 - v1) = T + v2 - v1 := by rw [IntKind.wrap_i64]; omega
            have e3 : IntKind.i64.wrap ((j : Int) + 2 ^ k) = (u : Int) := by rw [hui, IntKind.wrap_i64]; omega
            have hk2 : Ext wr wr.drew := Ext.drew wr
            have hum32 : u ≤ 32 := by omega
            clear hy2 hbit hu hui hu' hb hv1 hv2 hTb
            go_wp2_with (first | (go_at_call 64; refine (s_HasPlayer _ _ _ (by omega)).mono ?_; rw [HBB.out]; rintro e w' ⟨rfl, rfl⟩))
            go_region_held3 (fun w' => w'.cell? ⟨w.heap.size, 1, none⟩ = some (.slice (some ⟨b, off, none⟩) m cap) ∧ w'.cell? ⟨b, off + u, none⟩ = some (.int .i64 v2) ∧ w'.cell? ⟨b, off + j, none⟩ = some (.int .i64 v1) ∧ Ext wr w')
              (exact ⟨hk2.cellSome c1', hk2.cellSome hc2, hk2.cellSome hc, hk2⟩)
              (first
                | (go_at_call 65; refine (s_l2Bit _ _).mono ?_; rw [HC.out]; rintro e w' ⟨rfl, rfl⟩))
            go_wp2
            go_roundw
            case rel => exact ⟨j + 1, by omega, by go_num, by unfold avgS; rw [HB.out, ← HT.out, ← HU.out, ← HY2.out, ← HY1.out]; simp [one1]; omega, Lib.hid (HX3.out.trans hk2)⟩
            case measure => simp [intOf]; omega
          · rw [hbit] at hb
            have HB := Lib.hid hbit
            have HBB := Lib.hid hb
            clear hbit hb
            go_wp2_with (first | (go_at_call 64; refine (s_HasPlayer _ _ _ (by omega)).mono ?_; rw [HBB.out]; rintro e w' ⟨rfl, rfl⟩))
            go_roundw
            case rel => exact ⟨j + 1, by omega, by go_num, by unfold avgS; rw [HB.out, ← HT.out]; simp, HX3⟩
            case measure => simp [intOf]; omega
        · have hjm : j = m := by omega
          subst hjm
          obtain ⟨p, q, ok, hpq⟩ : ∃ p q ok, ratOf T ((j : Int) / 2) = ((p, q), ok) := ⟨_, _, _, rfl⟩
          have HPQ := Lib.hid hpq
          have X12 := Lib.hid (HX2.out.trans HX3.out)
          have HO3 := Lib.hid (HO2.out.ext HX3.out)
          have hsz2 : w.heap.size + 1 ≤ wr.heap.size := by have := X12.out.size; simpa using this
          clear hpq
          go_wp2_with fail
          refine (s_RatOf _ _ _).mono ?_
          rw [HPQ.out]
          rintro e w3 ⟨rfl, hx3⟩
          have X3 := Lib.hid (X12.out.trans hx3)
          have HO4 := Lib.hid (HO3.out.ext hx3)
          have hsz3 := hx3.size
          clear hx3
          go_wp2_with (first
            | (at_builtin; refine append_rats rfl _ _ rfl (w.heap.size + 1) (.slice a1 n1 p1) _ rfl ((HO4.out.ext (Ext.alloc _ _)).ext (Ext.alloc _ _)) _ 1 _ [(p, q)] rfl (Rats.one' _ _ _ _ _ (by simp)) (by rw [banzT_ok _ HVV.out, avgT_len]; omega) (by simp; omega) ?_; intro v2 w4 ho hg hnear; obtain ⟨a2, n2, c2, rfl, HN2⟩ := ho.var; have HO5 := Lib.hid ho; have HG4 := Lib.hid hg; clear ho hg hnear))
          go_roundw
          case rel =>
            refine ⟨k + 1, a2, n2, c2, by omega, by go_num, rfl, Lib.hid ?_, Lib.hid ?_⟩
            · have := HO5.out
              rw [banzT_ok _ HVV.out] at this ⊢
              rw [HL.out] at this
              rw [avgT_succ, avgR, HL.out, ← HT.out, HPQ.out]; exact this
            · exact ext_grown (X3.out.trans ((Ext.alloc _ _).trans (Ext.alloc _ _))) HG4.out (fun j hj => by have := (HO4.out.lt j hj).1; simpa using this)
          case measure => simp [intOf]; omega
    · go_wp2_with fail
      refine HV.out.mono ?_
      rintro e w3 ⟨rfl, hx3⟩
      go_wp2
      have hkn : k = n := by omega
      subst hkn
      refine bodyPost_ret (v := .tuple #[.slice a1 n1 p1, .bool true]) (by simp [results, Try.results12, go_sem]) rfl ⟨⟨_, rfl, by unfold banzL; exact (HO1.out.ext hx3).mono (by omega)⟩, HX.out.trans (HX1.out.trans hx3)⟩
end Go.Proofs.Ytgohdmnbnhehnaa
namespace Go.Proofs.Ytgohdmnbnhehnaa
set_option linter.unusedVariables false
open Go.RowKit
theorem perm_sum {l l' : List Int} (h : l.Perm l') : l.sum = l'.sum := by
  induction h with
  | nil => rfl
  | cons x _ ih => simp [ih]
  | swap x y l => simp only [List.sum_cons]; omega
  | trans _ _ a b => exact a.trans b
def avgTm (wt : Nat → Int) (V : List Int) (k s : Nat) : Int := if bit (s : Int) k = true then 0 else wt (popN s) * (V[s + 2 ^ k]?.getD 0 - V[s]?.getD 0)
theorem avgS_sum (wt : Nat → Int) (V : List Int) (k : Nat) : ∀ m, avgS wt V k m = ((List.range m).map (avgTm wt V k)).sum
  | 0 => rfl
  | m + 1 => by rw [List.range_succ, List.map_append, List.sum_append, ← avgS_sum]; simp [avgS, avgTm]
def nullS (V : List Int) (k : Nat) : Nat → Bool
  | 0 => true
  | m + 1 => nullS V k m && (bit (m : Int) k || V[m]?.getD 0 == V[m + 2 ^ k]?.getD 0)
theorem nullS_avg {wt : Nat → Int} {V : List Int} {k : Nat} : ∀ {m : Nat}, nullS V k m = true → avgS wt V k m = 0
  | 0, _ => rfl
  | m + 1, h => by
    simp only [nullS, Bool.and_eq_true, Bool.or_eq_true, beq_iff_eq] at h
    unfold avgS
    rw [nullS_avg h.1]
    rcases h.2 with h2 | h2
    · simp [h2]
    · split
      · rfl
      · rw [h2]; simp
def symS (V : List Int) (i j : Nat) : Nat → Bool
  | 0 => true
  | m + 1 => symS V i j m && (bit (m : Int) i || bit (m : Int) j || V[m + 2 ^ i]?.getD 0 == V[m + 2 ^ j]?.getD 0)
theorem symS_at {V : List Int} {i j : Nat} : ∀ {m : Nat}, symS V i j m = true → ∀ u, u < m → bit (u : Int) i = false → bit (u : Int) j = false → V[u + 2 ^ i]?.getD 0 = V[u + 2 ^ j]?.getD 0
  | 0, _, u, hu, _, _ => absurd hu (by omega)
  | m + 1, h, u, hu, hi, hj => by
    simp only [symS, Bool.and_eq_true, Bool.or_eq_true, beq_iff_eq] at h
    by_cases e : u = m
    · subst e
      rcases h.2 with (h2 | h2) | h2
      · rw [hi] at h2; cases h2
      · rw [hj] at h2; cases h2
      · exact h2
    · exact symS_at h.1 u (by omega) hi hj
theorem symS_stuck {V : List Int} {i j m : Nat} (h : symS V i j m = false) : ∀ d, symS V i j (m + d) = false
  | 0 => h
  | d + 1 => by rw [← Nat.add_assoc]; simp [symS, symS_stuck h d]
def swpB (i j t : Nat) : Nat := if bit (t : Int) i = bit (t : Int) j then t else if bit (t : Int) i = true then t - 2 ^ i + 2 ^ j else t - 2 ^ j + 2 ^ i
def swpOk (n i j t : Nat) : Bool :=
  decide (swpB i j t < cN n) && (bit ((swpB i j t : Nat) : Int) i == bit (t : Int) j) && (popN (swpB i j t) == popN t) && (bit (t : Int) j || (swpB i j t + 2 ^ i == swpB i j (t + 2 ^ j))) &&
  (swpB i j t == t || (decide (2 ^ i ≤ t) && !bit ((t - 2 ^ i : Nat) : Int) i && !bit ((t - 2 ^ i : Nat) : Int) j && (swpB i j t == t - 2 ^ i + 2 ^ j)) || (decide (2 ^ j ≤ t) && !bit ((t - 2 ^ j : Nat) : Int) i && !bit ((t - 2 ^ j : Nat) : Int) j && (swpB i j t == t - 2 ^ j + 2 ^ i)))
theorem swp_facts : ∀ n : Fin 6, ∀ i j : Fin 5, ∀ t : Fin 32, i.val < n.val → j.val < n.val → t.val < cN n.val → swpOk n.val i.val j.val t.val = true := by decide +kernel
theorem swp_perm_nat : ∀ n : Fin 6, ∀ i j : Fin 5, i.val < n.val → j.val < n.val → ((List.range (cN n.val)).map (swpB i.val j.val)).isPerm (List.range (cN n.val)) = true := by decide +kernel
theorem avg_sym {wt : Nat → Int} {V : List Int} {n i j : Nat} (hn : n ≤ 5) (hi : i < n) (hj : j < n) (hs : symS V i j (cN n) = true) : avgS wt V i (cN n) = avgS wt V j (cN n) := by
  have hN := cN_le n hn
  have hf : ∀ t, t < cN n → swpOk n i j t = true := fun t ht => swp_facts ⟨n, by omega⟩ ⟨i, by omega⟩ ⟨j, by omega⟩ ⟨t, by omega⟩ hi hj ht
  have hp : ((List.range (cN n)).map (swpB i j)).Perm (List.range (cN n)) := List.isPerm_iff.1 (swp_perm_nat ⟨n, by omega⟩ ⟨i, by omega⟩ ⟨j, by omega⟩ hi hj)
  have hV : ∀ t, t < cN n → V[swpB i j t]?.getD 0 = V[t]?.getD 0 := by
    intro t ht
    have h := hf t ht
    simp only [swpOk, Bool.and_eq_true, Bool.or_eq_true, beq_iff_eq, decide_eq_true_eq, Bool.not_eq_true'] at h
    rcases h.2 with (h2 | ⟨⟨⟨h0, h1⟩, h2⟩, h3⟩) | ⟨⟨⟨h0, h1⟩, h2⟩, h3⟩
    · rw [h2]
    · have := symS_at hs (t - 2 ^ i) (Nat.lt_of_le_of_lt (Nat.sub_le _ _) ht) h1 h2
      rw [h3, ← this, Nat.sub_add_cancel h0]
    · have := symS_at hs (t - 2 ^ j) (Nat.lt_of_le_of_lt (Nat.sub_le _ _) ht) h1 h2
      rw [h3, this, Nat.sub_add_cancel h0]
  rw [avgS_sum, avgS_sum, ← perm_sum (hp.map (avgTm wt V i)), List.map_map]
  congr 1
  refine List.map_congr_left fun t ht => ?_
  have ht' : t < cN n := by simpa using ht
  have h := hf t ht'
  have hvt := hV t ht'
  simp only [swpOk, Bool.and_eq_true, Bool.or_eq_true, beq_iff_eq, decide_eq_true_eq, Bool.not_eq_true'] at h
  simp only [Function.comp_apply, avgTm]
  rw [h.1.1.1.2, h.1.1.2]
  cases hb : bit (t : Int) j
  · rw [hb] at h
    have h4 : swpB i j t + 2 ^ i = swpB i j (t + 2 ^ j) := by simpa using h.1.2
    rw [h4, hvt, hV _ (up_lt hn ht' hj hb)]
  · rfl
end Go.Proofs.Ytgohdmnbnhehnaa
namespace Go.Proofs.Ytgohdmnbnhehnaa
set_option linter.unusedVariables false
open Go.RowKit
theorem ratOf_null (d : Int) : (ratOf 0 d).1.1 = 0 := by
  unfold ratOf
  split
  · rfl
  · split
    · unfold cutR
      split
      · simp
      · rfl
    · unfold cutR
      split
      · simp
      · rfl
def nullT (V : List Int) (n k : Nat) : List Int := ((List.range k).filter fun j => nullS V j (cN n)).map fun (j : Nat) => (j : Int)
theorem nullT_succ (V : List Int) (n k : Nat) : nullT V n (k + 1) = nullT V n k ++ if nullS V k (cN n) = true then [(k : Int)] else [] := by
  unfold nullT
  rw [List.range_succ, List.filter_append, List.map_append]
  congr 1
  by_cases h : nullS V k (cN n) = true
  · simp [h]
  · simp [h]
theorem nullT_len (V : List Int) (n k : Nat) : (nullT V n k).length ≤ k := by
  unfold nullT
  rw [List.length_map]
  exact Nat.le_trans (List.length_filter_le _ _) (by simp)
def nullL (p : Int) (V : List Int) : List Int := if gameOk p V = true then nullT V p.toNat p.toNat else []
theorem nullL_not {p : Int} {V : List Int} (h : gameOk p V = false) : nullL p V = [] := by unfold nullL; rw [if_neg (by rw [h]; simp)]
theorem nullL_ok {n : Nat} {V : List Int} (h : gameOk (n : Int) V = true) : nullL (n : Int) V = nullT V n n := by unfold nullL; rw [if_pos h, Int.toNat_natCast]
theorem null_zero {p : Int} {V : List Int} {j : Nat} (hj : j < (nullL p V).length) : ∃ k : Nat, (nullL p V)[j]?.getD 0 = (k : Int) ∧ k < (shapL p V).length ∧ k < (banzL p V).length ∧ ((shapL p V)[k]?.getD (0, 0)).1 = 0 ∧ ((banzL p V)[k]?.getD (0, 0)).1 = 0 := by
  cases hg : gameOk p V
  · rw [nullL_not hg] at hj; simp at hj
  · obtain ⟨n, rfl, h1, h5, hlen, h0, hV⟩ := gameOk_len hg
    rw [nullL_ok hg] at hj ⊢
    have hm := List.getElem_mem hj
    rw [List.getElem?_eq_getElem hj, Option.getD_some]
    generalize (nullT V n n)[j] = x at hm ⊢
    unfold nullT at hm
    obtain ⟨k, hk, rfl⟩ := List.mem_map.1 hm
    rw [List.mem_filter, List.mem_range] at hk
    have hb : banzL (n : Int) V = avgT one1 V ((V.length : Int) / 2) n := by unfold banzL; rw [banzT_ok _ hg, Int.toNat_natCast]
    refine ⟨k, rfl, by rw [shapL_ok hg, avgT_len]; exact hk.1, by rw [hb, avgT_len]; exact hk.1, ?_, ?_⟩
    · rw [shapL_ok hg, avgT_at hk.1]; unfold avgR; rw [hlen, nullS_avg hk.2]; exact ratOf_null _
    · rw [hb, avgT_at hk.1]; unfold avgR; rw [hlen, nullS_avg hk.2]; exact ratOf_null _
def symOk (p : Int) (V : List Int) (i j : Int) : Bool := gameOk p V && (inB i 0 (p - 1) && (inB j 0 (p - 1) && symS V i.toNat j.toNat (cN p.toNat)))
theorem sym_same {p : Int} {V : List Int} {i j : Int} (h : symOk p V i j = true) : ∃ i' j' : Nat, i = i' ∧ j = j' ∧ i' < (shapL p V).length ∧ j' < (shapL p V).length ∧ (shapL p V)[i']?.getD (0, 0) = (shapL p V)[j']?.getD (0, 0) ∧ gameOk p V = true := by
  unfold symOk at h
  simp only [Bool.and_eq_true, inB, decide_eq_true_eq] at h
  obtain ⟨hg, hi, hj, hs⟩ := h
  obtain ⟨n, rfl, h1, h5, hlen, h0, hV⟩ := gameOk_len hg
  obtain ⟨i', rfl⟩ : ∃ q : Nat, i = q := ⟨i.toNat, by omega⟩
  obtain ⟨j', rfl⟩ : ∃ q : Nat, j = q := ⟨j.toNat, by omega⟩
  simp only [Int.toNat_natCast] at hs
  have hi' : i' < n := by omega
  have hj' : j' < n := by omega
  refine ⟨i', j', rfl, rfl, by rw [shapL_ok hg, avgT_len]; exact hi', by rw [shapL_ok hg, avgT_len]; exact hj', ?_, hg⟩
  rw [shapL_ok hg, avgT_at hi', avgT_at hj']
  unfold avgR
  rw [hlen, avg_sym h5 hi' hj' hs]
end Go.Proofs.Ytgohdmnbnhehnaa
namespace Go.Proofs.Ytgohdmnbnhehnaa
set_option linter.unusedVariables false
set_option linter.unusedSimpArgs false
set_option maxRecDepth 100000
open Go.RowKit
theorem or_set_nat : ∀ s : Fin 32, ∀ k : Fin 5, bit ((s.val : Nat) : Int) k.val = true → bits .or .i64 ((s.val : Nat) : Int) (2 ^ k.val) = ((s.val : Nat) : Int) := by decide +kernel
theorem nullS_succ (V : List Int) (k m : Nat) : nullS V k (m + 1) = (nullS V k m && (bit (m : Int) k || V[m]?.getD 0 == V[m + 2 ^ k]?.getD 0)) := rfl
theorem symS_succ (V : List Int) (i j m : Nat) : symS V i j (m + 1) = (symS V i j m && (bit (m : Int) i || bit (m : Int) j || V[m + 2 ^ i]?.getD 0 == V[m + 2 ^ j]?.getD 0)) := rfl
theorem or_join {n q s k : Nat} (hq : q ≤ 5) (hn : n = cN q) (hs : s < n) (hk : k < q) :
    ∃ u : Nat, u < n ∧ bits .or .i64 (s : Int) (2 ^ k) = (u : Int) ∧ (bit (s : Int) k = true → u = s) ∧ (bit (s : Int) k = false → u = s + 2 ^ k) := by
  have hc := cN_le q hq
  cases hb : bit (s : Int) k
  · have h1 := up_lt hq (by rw [← hn]; exact hs) hk hb
    have h2 := or_bit (s := s) (k := k) (by omega) (by omega) hb
    exact ⟨s + 2 ^ k, by omega, by rw [h2]; simp, fun h => (by cases h), fun _ => rfl⟩
  · exact ⟨s, hs, or_set_nat ⟨s, by omega⟩ ⟨k, by omega⟩ hb, fun _ => rfl, fun h => (by cases h)⟩
set_option maxHeartbeats 8000000 in
theorem i_NullPlayers {w : World} {p : Int} {a : Option Addr} {n cap : Nat} {V : List Int} (h : Ints w a n cap V) :
    Calls Try.prog 10 #[pair p a n cap] w fun e w' => (∃ v, e = .returned v ∧ OwnI w' w.heap.size v (nullL p V)) ∧ Ext w w' := by
  have hX := Ext.alloc w (.cells #[.int .i64 p, .slice a n cap] 26)
  have k0 : (w.alloc (.cells #[.int .i64 p, .slice a n cap] 26)).cell? ⟨w.heap.size, 0, none⟩ = some (.int .i64 p) := by simp
  have k1 : (w.alloc (.cells #[.int .i64 p, .slice a n cap] 26)).cell? ⟨w.heap.size, 1, none⟩ = some (.slice a n cap) := by simp
  have HI := Lib.hid (h.ext hX)
  have HX := Lib.hid hX
  have HL := Lib.hid h.hlen
  have hcap := h.hcap
  have hmax := h.hmax
  have HV := Lib.hid (i_IsValidGame (p := p) HI.out)
  clear h hX
  cases hg : gameOk p V
  · rw [hg] at HV
    have HN := Lib.hid (nullL_not hg)
    clear hg
    go_enter Try.func10, Try.ntmps10
    go_wp2_with fail
    refine HV.out.mono ?_
    rintro e w1 ⟨rfl, hx1⟩
    have X1 := Lib.hid (HX.out.trans hx1)
    clear hx1
    go_wp2_with fail
    go_ret
    exact ⟨⟨_, rfl, by rw [HN.out]; exact OwnI.nil _ _⟩, X1.out⟩
  rw [hg] at HV
  obtain ⟨q, rfl, hq1, hq5, hVl, _, hVb⟩ := gameOk_len hg
  have HN := Lib.hid (nullL_ok hg)
  have hc := cN_le q hq5
  have hnq : n = cN q := by have := HL.out; omega
  have HNQ := Lib.hid hnq
  clear hg hVl hVb hnq
  go_enter Try.func10, Try.ntmps10
  go_wp2_with fail
  refine HV.out.mono ?_
  rintro e w1 ⟨rfl, hx1⟩
  have X1 := Lib.hid (HX.out.trans hx1)
  have HI1 := Lib.hid (HI.out.ext hx1)
  replace k0 := hx1.cellSome k0
  replace k1 := hx1.cellSome k1
  have hsz1 : w.heap.size < w1.heap.size := World.block_lt_of_cell? _ _ k0
  have HO1 := Lib.hid (OwnI.made w1 w1.heap.size (Nat.le_refl _))
  have j0 := (Ext.alloc w1 (.cells #[] 3)).cellSome k0
  clear hx1
  go_wp2_with fail
  go_loopg [3, 14] q (fun gk oo kk wr => ∃ (k : Nat) (a1 : Option Addr) (n1 p1 : Nat), Hid (gk + k = q) ∧ oo = .slice a1 n1 p1 ∧ kk = .int .i64 (k : Int) ∧ Hid (OwnI wr w1.heap.size (.slice a1 n1 p1) (nullT V q k)) ∧ Hid (Ext w1 wr))
  case atStart => exact ⟨0, _, _, _, Lib.hid (by omega), rfl, rfl, Lib.hid (by exact HO1.out), Lib.hid (Ext.alloc _ _)⟩
  case round =>
    obtain ⟨g1, h_g1⟩ : ∃ x, x = gk := ⟨_, rfl⟩
    subst h_g1
    obtain ⟨wr1, h_wr1⟩ : ∃ x, x = wr := ⟨_, rfl⟩
    subst h_wr1
    obtain ⟨k, a1, n1, p1, HK, rfl, rfl, HO, XR⟩ := hrel
    by_cases hlt : k < q
    · have q1 := XR.out.cellSome k1
      have e4 := kwrap_pow' k (by omega)
      have hp := pow_pos k
      have hp5 := pow_le5 k (by omega)
      go_wp2_with fail
      go_loopg [5, 20] n (fun gk bb jj wr => ∃ (j : Nat) (t : Bool), Hid (gk + j = n) ∧ bb = .bool t ∧ jj = .int .i64 (j : Int) ∧ Hid (nullS V k j = t) ∧ Hid (Ext wr1 wr))
      case atStart => exact ⟨0, true, Lib.hid (by omega), rfl, rfl, Lib.hid rfl, Lib.hid (Ext.refl _)⟩
      case round =>
        obtain ⟨g2, h_g2⟩ : ∃ x, x = gk := ⟨_, rfl⟩
        subst h_g2
        obtain ⟨wr2, h_wr2⟩ : ∃ x, x = wr := ⟨_, rfl⟩
        subst h_wr2
        obtain ⟨j, t, HJ, rfl, rfl, HT, XS⟩ := hrel
        have r1 := XS.out.cellSome q1
        by_cases hlj : j < n
        · obtain ⟨u, hu, hor, hub, hun⟩ := or_join hq5 HNQ.out hlj hlt
          obtain ⟨vb, vo, rfl, hcj⟩ := ((HI1.out.ext XR.out).ext XS.out).at hlj
          obtain ⟨vb2, vo2, he2, hcu⟩ := ((HI1.out.ext XR.out).ext XS.out).at hu
          simp only [Option.some.injEq, Addr.mk.injEq, and_true] at he2
          obtain ⟨rfl, rfl⟩ := he2
          have HU := Lib.hid (show (bit (j : Int) k || V[j]?.getD 0 == V[j + 2 ^ k]?.getD 0) = (V[j]?.getD 0 == V[u]?.getD 0) by
            cases hb : bit (j : Int) k
            · rw [hun hb]; rfl
            · rw [hub hb]; simp)
          obtain ⟨y1, hy1⟩ : ∃ y, y = V[j]?.getD 0 := ⟨_, rfl⟩
          obtain ⟨y2, hy2⟩ : ∃ y, y = V[u]?.getD 0 := ⟨_, rfl⟩
          rw [← hy1] at hcj
          rw [← hy2] at hcu
          rw [← hy1, ← hy2] at HU
          clear hub hun
          cases t
          · have HT2 := Lib.hid (show nullS V k (j + 1) = false by rw [nullS_succ, HT.out]; rfl)
            clear hy1 hy2
            go_wp2_with fail
            refine wp_region_held_drew (S := (fun w' => w'.cell? ⟨w.heap.size, 1, none⟩ = some (.slice (some ⟨vb, vo, none⟩) n cap) ∧ Ext wr2 w')) (by kernel_rfl) ?_ (fun hHeld => ?_)
            · exact ⟨(Ext.drew wr2).cellSome r1, Ext.drew wr2⟩
            refine tk (i := 0) (h := ?_)
            try simp only [Act.put, sA, sB, sC]
            refine tk (i := 1) (h := ?_)
            try simp only [Act.put, sA, sB, sC]
            refine sk (i := 2) (h := ?_)
            try simp only [Act.put, sA, sB, sC]
            refine sk (i := 3) (h := ?_)
            try simp only [Act.put, sA, sB, sC]
            refine sk (i := 4) (h := ?_)
            try simp only [Act.put, sA, sB, sC]
            refine sk (i := 5) (h := ?_)
            try simp only [Act.put, sA, sB, sC]
            refine sk (i := 6) (h := ?_)
            try simp only [Act.put, sA, sB, sC]
            refine sk (i := 7) (h := ?_)
            try simp only [Act.put, sA, sB, sC]
            refine sk (i := 8) (h := ?_)
            try simp only [Act.put, sA, sB, sC]
            refine sk (i := 9) (h := ?_)
            try simp only [Act.put, sA, sB, sC]
            refine sk (i := 10) (h := ?_)
            try simp only [Act.put, sA, sB, sC]
            refine sk (i := 11) (h := ?_)
            try simp only [Act.put, sA, sB, sC]
            refine tk (i := 12) (h := ?_)
            try simp only [Act.put, sA, sB, sC]
            refine tk (i := 13) (h := ?_)
            try simp only [Act.put, sA, sB, sC]
            refine wpAnyH_done (by kernel_rfl) ?_ _
            go_wp2_with fail
            go_roundg (g2 - 1)
            case measure => have := HJ.out; omega
            case rel => exact ⟨j + 1, false, Lib.hid (by have := HJ.out; omega), rfl, by go_num, HT2, Lib.hid (XS.out.trans (Ext.drew wr2))⟩
          · have HT2 := Lib.hid (show nullS V k (j + 1) = (y1 == y2) by rw [nullS_succ, HT.out, hy1.symm, ← HU.out, hy1]; rfl)
            clear hy1 hy2
            go_wp2_with fail
            go_quiet (fail)
            go_wp2_with fail
            go_roundg (g2 - 1)
            case measure => have := HJ.out; omega
            case rel => exact ⟨j + 1, (y1 == y2), Lib.hid (by have := HJ.out; omega), rfl, by go_num, HT2, Lib.hid (XS.out.trans (Drew.ext ⟨_, rfl⟩))⟩
        · have hjn : j = n := by have := HJ.out; omega
          subst hjn
          have HNT := Lib.hid (nullT_succ V q k)
          have HT2 := Lib.hid (show nullS V k (cN q) = t by rw [← HNQ.out]; exact HT.out)
          rw [HT2.out] at HNT
          have HO2 := Lib.hid (HO.out.ext XS.out)
          have HLN := Lib.hid (nullT_len V q k)
          have hsz2 := (XR.out.trans XS.out).size
          cases t
          · rw [if_neg (by decide), List.append_nil] at HNT
            go_wp2_with fail
            go_roundg (g1 - 1)
            case measure => have := HK.out; omega
            case rel => exact ⟨k + 1, a1, n1, p1, Lib.hid (by have := HK.out; omega), rfl, by go_num, Lib.hid (by rw [HNT.out]; exact HO2.out), Lib.hid (XR.out.trans XS.out)⟩
          · rw [if_pos rfl] at HNT
            go_wp2_with (first
              | (at_builtin; refine append_ints rfl _ _ rfl w1.heap.size (.slice a1 n1 p1) (nullT V q k) rfl (HO2.out.ext (Ext.alloc _ _)) _ 1 _ [(k : Int)] rfl (Ints.oneS _ _ _ _ rfl) (by have := HLN.out; omega) (by simp; omega) ?_; intro v5 w5 ho hg hnear; obtain ⟨a5, n5, p5, rfl, HN5⟩ := ho.var; have HO5 := Lib.hid ho; have X5 := Lib.hid (ext_grown ((XR.out.trans XS.out).trans (Ext.alloc _ _)) hg (fun j hj => (HO2.out.lt j hj).1)); clear ho hg hnear))
            go_roundg (g1 - 1)
            case measure => have := HK.out; omega
            case rel => exact ⟨k + 1, a5, n5, p5, Lib.hid (by have := HK.out; omega), rfl, by go_num, Lib.hid (by rw [HNT.out]; exact HO5.out), X5⟩
    · have hkq : k = q := by have := HK.out; omega
      subst hkq
      go_wp2_with fail
      go_ret
      exact ⟨⟨_, rfl, by rw [HN.out]; exact HO.out.mono (by omega)⟩, X1.out.trans XR.out⟩
set_option maxHeartbeats 8000000 in
theorem s_NullPlayers {w : World} {p : Int} {a : Option Addr} {n cap : Nat} {V : List Int} (h : Ints w a n cap V) :
    Calls Try.prog 14 #[pair p a n cap] w fun e w' => (∃ v, e = .returned v ∧ OwnI w' w.heap.size v (nullL p V)) ∧ Ext w w' := by
  obtain ⟨W, hW⟩ : ∃ W, W = w.alloc (.cells #[.int .i64 p, .slice a n cap] 26) := ⟨_, rfl⟩
  have hX : Ext w W := by rw [hW]; exact Ext.alloc _ _
  have k0 : W.cell? ⟨w.heap.size, 0, none⟩ = some (.int .i64 p) := by rw [hW]; simp
  have k1 : W.cell? ⟨w.heap.size, 1, none⟩ = some (.slice a n cap) := by rw [hW]; simp
  have HI := Lib.hid (h.ext hX)
  have HX := Lib.hid hX
  have HWS := Lib.hid (show W.heap.size = w.heap.size + 1 by rw [hW]; simp)
  have HL := Lib.hid h.hlen
  have hcap := h.hcap
  have hmax := h.hmax
  have HV := Lib.hid (fun (w' : World) (hx : Ext W w') => s_IsValidGame (p := p) (HI.out.ext hx))
  have HO1 := Lib.hid (OwnI.made W W.heap.size (Nat.le_refl _))
  clear h hX
  go_enter Try.func14, Try.ntmps14
  go_upto_region 1 with fail
  rw [← hW]
  clear hW
  cases hg : gameOk p V
  · rw [hg] at HV
    have HN := Lib.hid (nullL_not hg)
    clear hg
    by_cases hp : 0 < p
    · go_wp2_with fail
      go_loopg [3, 4] 1 (fun gk oo kk wr => oo = .slice (some ⟨W.heap.size, 0, none⟩) 0 0 ∧ kk = .int .i64 0 ∧ Hid (OwnI wr W.heap.size (.slice (some ⟨W.heap.size, 0, none⟩) 0 0) []) ∧ Hid (Ext W wr))
      case atStart => exact ⟨rfl, rfl, HO1, Lib.hid (Ext.alloc _ _)⟩
      case round =>
        obtain ⟨rfl, rfl, HO, XR⟩ := hrel
        have q0 := XR.out.cellSome k0
        have q1 := XR.out.cellSome k1
        go_wp2_with fail
        refine (HV.out _ XR.out).mono ?_
        rintro e w1 ⟨rfl, hx1⟩
        have X1 := Lib.hid (XR.out.trans hx1)
        have HO2 := Lib.hid (HO.out.ext hx1)
        clear hx1
        go_wp2_with fail
        go_ret
        exact ⟨⟨_, rfl, by rw [HN.out]; exact HO2.out.mono (by have := HWS.out; omega)⟩, HX.out.trans X1.out⟩
    · go_wp2_with fail
      go_loopg [3, 4] 1 (fun gk oo kk wr => oo = .slice (some ⟨W.heap.size, 0, none⟩) 0 0 ∧ kk = .int .i64 0 ∧ Hid (OwnI wr W.heap.size (.slice (some ⟨W.heap.size, 0, none⟩) 0 0) []) ∧ Hid (Ext W wr))
      case atStart => exact ⟨rfl, rfl, HO1, Lib.hid (Ext.alloc _ _)⟩
      case round =>
        obtain ⟨rfl, rfl, HO, XR⟩ := hrel
        have q0 := XR.out.cellSome k0
        go_wp2_with fail
        go_ret
        exact ⟨⟨_, rfl, by rw [HN.out]; exact HO.out.mono (by have := HWS.out; omega)⟩, HX.out.trans XR.out⟩
  rw [hg] at HV
  obtain ⟨q, rfl, hq1, hq5, hVl, _, hVb⟩ := gameOk_len hg
  have HN := Lib.hid (nullL_ok hg)
  have hc := cN_le q hq5
  have hnq : n = cN q := by have := HL.out; omega
  have HNQ := Lib.hid hnq
  clear hg hVl hVb hnq
  go_wp2_with fail
  go_loopg [3, 4] q (fun gk oo kk wr => ∃ (k : Nat) (a1 : Option Addr) (n1 p1 : Nat), Hid (gk + k = q) ∧ oo = .slice a1 n1 p1 ∧ kk = .int .i64 (k : Int) ∧ Hid (OwnI wr W.heap.size (.slice a1 n1 p1) (nullT V q k)) ∧ Hid (Ext W wr))
  case atStart => exact ⟨0, _, _, _, Lib.hid (by omega), rfl, rfl, Lib.hid (by exact HO1.out), Lib.hid (Ext.alloc _ _)⟩
  case round =>
    obtain ⟨g1, h_g1⟩ : ∃ x, x = gk := ⟨_, rfl⟩
    subst h_g1
    obtain ⟨wr0, h_wr0⟩ : ∃ x, x = wr := ⟨_, rfl⟩
    subst h_wr0
    obtain ⟨k, a1, n1, p1, HK, rfl, rfl, HO0, XR0⟩ := hrel
    have q0 := XR0.out.cellSome k0
    have q1 := XR0.out.cellSome k1
    by_cases hlt : k < q
    · go_wp2_with fail
      refine (HV.out _ XR0.out).mono ?_
      rintro e wr1 ⟨rfl, hx1⟩
      have XR := Lib.hid (XR0.out.trans hx1)
      have HO := Lib.hid (HO0.out.ext hx1)
      have q1 := XR.out.cellSome k1
      clear hx1
      have hpc := cN_pow k
      have HCB := Lib.hid (s_l2B k (by omega))
      go_wp2_with fail
      go_loopg [5, 6] n (fun gk bb jj wr => ∃ (j : Nat) (t : Bool), Hid (gk + j = n) ∧ bb = .bool t ∧ jj = .int .i64 (j : Int) ∧ Hid (nullS V k j = t) ∧ Hid (Ext wr1 wr))
      case atStart => exact ⟨0, true, Lib.hid (by omega), rfl, rfl, Lib.hid rfl, Lib.hid (Ext.refl _)⟩
      case round =>
        obtain ⟨g2, h_g2⟩ : ∃ x, x = gk := ⟨_, rfl⟩
        subst h_g2
        obtain ⟨wr2, h_wr2⟩ : ∃ x, x = wr := ⟨_, rfl⟩
        subst h_wr2
        obtain ⟨j, t, HJ, rfl, rfl, HT, XS⟩ := hrel
        have r1 := XS.out.cellSome q1
        by_cases hlj : j < n
        · have hkd : Ext wr2 wr2.drew := Ext.drew wr2
          obtain ⟨vb, vo, rfl, hcj⟩ := ((HI.out.ext XR.out).ext XS.out).at hlj
          cases t
          · have HT2 := Lib.hid (show nullS V k (j + 1) = false by rw [nullS_succ, HT.out]; rfl)
            go_wp2_with fail
            refine wp_region_held_drew (S := (fun w' => w'.cell? ⟨w.heap.size, 1, none⟩ = some (.slice (some ⟨vb, vo, none⟩) n cap))) (by kernel_rfl) ?_ (fun hHeld => ?_)
            · exact hkd.cellSome r1
            refine tk (i := 0) (h := ?_)
            try simp only [Act.put, sA, sB, sC]
            refine tk (i := 1) (h := ?_)
            try simp only [Act.put, sA, sB, sC]
            refine sk (i := 2) (h := ?_)
            try simp only [Act.put, sA, sB, sC]
            refine sk (i := 3) (h := ?_)
            try simp only [Act.put, sA, sB, sC]
            refine sk (i := 4) (h := ?_)
            try simp only [Act.put, sA, sB, sC]
            refine sk (i := 5) (h := ?_)
            try simp only [Act.put, sA, sB, sC]
            refine sk (i := 6) (h := ?_)
            try simp only [Act.put, sA, sB, sC]
            refine sk (i := 7) (h := ?_)
            try simp only [Act.put, sA, sB, sC]
            refine sk (i := 8) (h := ?_)
            try simp only [Act.put, sA, sB, sC]
            refine sk (i := 9) (h := ?_)
            try simp only [Act.put, sA, sB, sC]
            refine sk (i := 10) (h := ?_)
            try simp only [Act.put, sA, sB, sC]
            refine sk (i := 11) (h := ?_)
            try simp only [Act.put, sA, sB, sC]
            refine sk (i := 12) (h := ?_)
            try simp only [Act.put, sA, sB, sC]
            refine sk (i := 13) (h := ?_)
            try simp only [Act.put, sA, sB, sC]
            refine sk (i := 14) (h := ?_)
            try simp only [Act.put, sA, sB, sC]
            refine sk (i := 15) (h := ?_)
            try simp only [Act.put, sA, sB, sC]
            refine sk (i := 16) (h := ?_)
            try simp only [Act.put, sA, sB, sC]
            refine sk (i := 17) (h := ?_)
            try simp only [Act.put, sA, sB, sC]
            refine sk (i := 18) (h := ?_)
            try simp only [Act.put, sA, sB, sC]
            refine sk (i := 19) (h := ?_)
            try simp only [Act.put, sA, sB, sC]
            refine sk (i := 20) (h := ?_)
            try simp only [Act.put, sA, sB, sC]
            refine tk (i := 21) (h := ?_)
            try simp only [Act.put, sA, sB, sC]
            refine tk (i := 22) (h := ?_)
            try simp only [Act.put, sA, sB, sC]
            refine wpAnyH_done (by kernel_rfl) ?_ _
            go_wp2_with fail
            go_roundg (g2 - 1)
            case measure => have := HJ.out; omega
            case rel => exact ⟨j + 1, false, Lib.hid (by have := HJ.out; omega), rfl, by go_num, HT2, Lib.hid (XS.out.trans hkd)⟩
          · have HHP := Lib.hid (hasP_bit (j : Int) k (by omega) (by omega))
            cases hb : bit (j : Int) k
            · have hu := up_lt hq5 (by rw [← HNQ.out]; exact hlj) hlt hb
              obtain ⟨u, hu'⟩ : ∃ u : Nat, u = j + 2 ^ k := ⟨_, rfl⟩
              have hui : (j : Int) + 2 ^ k = (u : Int) := by rw [hu']; simp
              have hun : u < n := by rw [HNQ.out, hu']; exact hu
              obtain ⟨vb2, vo2, he2, hcu⟩ := ((HI.out.ext XR.out).ext XS.out).at hun
              simp only [Option.some.injEq, Addr.mk.injEq, and_true] at he2
              obtain ⟨rfl, rfl⟩ := he2
              obtain ⟨y1, hy1⟩ : ∃ y, y = V[j]?.getD 0 := ⟨_, rfl⟩
              obtain ⟨y2, hy2⟩ : ∃ y, y = V[u]?.getD 0 := ⟨_, rfl⟩
              have HT2 := Lib.hid (show nullS V k (j + 1) = (y1 == y2) by rw [nullS_succ, HT.out, hb, ← hu', ← hy1, ← hy2]; rfl)
              rw [← hy1] at hcj
              rw [← hy2] at hcu
              rw [hb] at HHP
              have e1 : IntKind.i64.wrap ((j : Int) + 2 ^ k) = (u : Int) := by rw [hui, IntKind.wrap_i64]; omega
              clear hy1 hy2 hb hu hu' hui
              go_wp2_with fail
              refine wp_region_held_drew (S := (fun w' => w'.cell? ⟨w.heap.size, 1, none⟩ = some (.slice (some ⟨vb, vo, none⟩) n cap) ∧ w'.cell? ⟨vb, vo + j, none⟩ = some (.int .i64 y1) ∧ w'.cell? ⟨vb, vo + u, none⟩ = some (.int .i64 y2))) (by kernel_rfl) ?_ (fun hHeld => ?_)
              · exact ⟨hkd.cellSome r1, hkd.cellSome hcj, hkd.cellSome hcu⟩
              refine tk (i := 0) (h := ?_)
              try simp only [Act.put, sA, sB, sC]
              refine tk (i := 1) (h := ?_)
              try simp only [Act.put, sA, sB, sC]
              refine tk (i := 2) (h := ?_)
              try simp only [Act.put, sA, sB, sC]
              refine tk (i := 3) (h := ?_)
              try simp only [Act.put, sA, sB, sC]
              refine rd (i := 4) (h := fun K hK => ?_)
              go_simp
              refine (s_HasPlayer (j : Int) (k : Int) _ (by omega)).mono ?_; rw [HHP.out]; rintro e w5 ⟨rfl, rfl⟩
              go_wp2_with fail
              refine hK.out _ _ ?_ (fun hHeld => ?_)
              · exact hHeld
              clear hK K
              try simp only [Act.put, sA, sB, sC]
              refine tk (i := 5) (h := ?_)
              try simp only [Act.put, sA, sB, sC]
              refine tk (i := 6) (h := ?_)
              try simp only [Act.put, sA, sB, sC]
              refine tk (i := 7) (h := ?_)
              try simp only [Act.put, sA, sB, sC]
              refine tk (i := 8) (h := ?_)
              try simp only [Act.put, sA, sB, sC]
              refine tk (i := 9) (h := ?_)
              try simp only [Act.put, sA, sB, sC]
              refine tk (i := 10) (h := ?_)
              try simp only [Act.put, sA, sB, sC]
              refine tk (i := 11) (h := ?_)
              try simp only [Act.put, sA, sB, sC]
              refine tk (i := 12) (h := ?_)
              try simp only [Act.put, sA, sB, sC]
              refine tk (i := 13) (h := ?_)
              try simp only [Act.put, sA, sB, sC]
              refine tk (i := 14) (h := ?_)
              try simp only [Act.put, sA, sB, sC]
              refine rd (i := 15) (h := fun K hK => ?_)
              go_simp
              refine (HCB.out _).mono ?_; rintro e w6 ⟨rfl, rfl⟩
              go_wp2_with fail
              refine hK.out _ _ ?_ (fun hHeld => ?_)
              · exact hHeld
              clear hK K
              try simp only [Act.put, sA, sB, sC]
              refine tk (i := 16) (h := ?_)
              try simp only [Act.put, sA, sB, sC]
              refine tk (i := 17) (h := ?_)
              try simp only [Act.put, sA, sB, sC]
              refine tk (i := 18) (h := ?_)
              try simp only [Act.put, sA, sB, sC]
              refine tk (i := 19) (h := ?_)
              try simp only [Act.put, sA, sB, sC]
              refine tk (i := 20) (h := ?_)
              try simp only [Act.put, sA, sB, sC]
              refine tk (i := 21) (h := ?_)
              try simp only [Act.put, sA, sB, sC]
              refine tk (i := 22) (h := ?_)
              try simp only [Act.put, sA, sB, sC]
              refine wpAnyH_done (by kernel_rfl) ?_ _
              go_wp2_with fail
              go_roundg (g2 - 1)
              case measure => have := HJ.out; omega
              case rel => exact ⟨j + 1, (y1 == y2), Lib.hid (by have := HJ.out; omega), rfl, by go_num, HT2, Lib.hid (XS.out.trans hkd)⟩
            · have HT2 := Lib.hid (show nullS V k (j + 1) = true by rw [nullS_succ, HT.out, hb]; rfl)
              rw [hb] at HHP
              clear hb
              go_wp2_with fail
              refine wp_region_held_drew (S := (fun w' => w'.cell? ⟨w.heap.size, 1, none⟩ = some (.slice (some ⟨vb, vo, none⟩) n cap))) (by kernel_rfl) ?_ (fun hHeld => ?_)
              · exact hkd.cellSome r1
              refine tk (i := 0) (h := ?_)
              try simp only [Act.put, sA, sB, sC]
              refine tk (i := 1) (h := ?_)
              try simp only [Act.put, sA, sB, sC]
              refine tk (i := 2) (h := ?_)
              try simp only [Act.put, sA, sB, sC]
              refine tk (i := 3) (h := ?_)
              try simp only [Act.put, sA, sB, sC]
              refine rd (i := 4) (h := fun K hK => ?_)
              go_simp
              refine (s_HasPlayer (j : Int) (k : Int) _ (by omega)).mono ?_; rw [HHP.out]; rintro e w5 ⟨rfl, rfl⟩
              go_wp2_with fail
              refine hK.out _ _ ?_ (fun hHeld => ?_)
              · exact hHeld
              clear hK K
              try simp only [Act.put, sA, sB, sC]
              refine tk (i := 5) (h := ?_)
              try simp only [Act.put, sA, sB, sC]
              refine sk (i := 6) (h := ?_)
              try simp only [Act.put, sA, sB, sC]
              refine sk (i := 7) (h := ?_)
              try simp only [Act.put, sA, sB, sC]
              refine sk (i := 8) (h := ?_)
              try simp only [Act.put, sA, sB, sC]
              refine sk (i := 9) (h := ?_)
              try simp only [Act.put, sA, sB, sC]
              refine sk (i := 10) (h := ?_)
              try simp only [Act.put, sA, sB, sC]
              refine sk (i := 11) (h := ?_)
              try simp only [Act.put, sA, sB, sC]
              refine sk (i := 12) (h := ?_)
              try simp only [Act.put, sA, sB, sC]
              refine sk (i := 13) (h := ?_)
              try simp only [Act.put, sA, sB, sC]
              refine sk (i := 14) (h := ?_)
              try simp only [Act.put, sA, sB, sC]
              refine sk (i := 15) (h := ?_)
              try simp only [Act.put, sA, sB, sC]
              refine sk (i := 16) (h := ?_)
              try simp only [Act.put, sA, sB, sC]
              refine sk (i := 17) (h := ?_)
              try simp only [Act.put, sA, sB, sC]
              refine sk (i := 18) (h := ?_)
              try simp only [Act.put, sA, sB, sC]
              refine sk (i := 19) (h := ?_)
              try simp only [Act.put, sA, sB, sC]
              refine tk (i := 20) (h := ?_)
              try simp only [Act.put, sA, sB, sC]
              refine tk (i := 21) (h := ?_)
              try simp only [Act.put, sA, sB, sC]
              refine tk (i := 22) (h := ?_)
              try simp only [Act.put, sA, sB, sC]
              refine wpAnyH_done (by kernel_rfl) ?_ _
              go_wp2_with fail
              go_roundg (g2 - 1)
              case measure => have := HJ.out; omega
              case rel => exact ⟨j + 1, true, Lib.hid (by have := HJ.out; omega), rfl, by go_num, HT2, Lib.hid (XS.out.trans hkd)⟩
        · have hjn : j = n := by have := HJ.out; omega
          subst hjn
          have HNT := Lib.hid (nullT_succ V q k)
          have HT2 := Lib.hid (show nullS V k (cN q) = t by rw [← HNQ.out]; exact HT.out)
          rw [HT2.out] at HNT
          have HO2 := Lib.hid (HO.out.ext XS.out)
          have HLN := Lib.hid (nullT_len V q k)
          have hsz2 := (XR.out.trans XS.out).size
          cases t
          · rw [if_neg (by decide), List.append_nil] at HNT
            go_wp2_with fail
            go_roundg (g1 - 1)
            case measure => have := HK.out; omega
            case rel => exact ⟨k + 1, a1, n1, p1, Lib.hid (by have := HK.out; omega), rfl, by go_num, Lib.hid (by rw [HNT.out]; exact HO2.out), Lib.hid (XR.out.trans XS.out)⟩
          · rw [if_pos rfl] at HNT
            go_wp2_with (first
              | (at_builtin; refine append_ints rfl _ _ rfl W.heap.size (.slice a1 n1 p1) (nullT V q k) rfl (HO2.out.ext (Ext.alloc _ _)) _ 1 _ [(k : Int)] rfl (Ints.oneS _ _ _ _ rfl) (by have := HLN.out; omega) (by simp; omega) ?_; intro v5 w5 ho hg hnear; obtain ⟨a5, n5, p5, rfl, HN5⟩ := ho.var; have HO5 := Lib.hid ho; have X5 := Lib.hid (ext_grown ((XR.out.trans XS.out).trans (Ext.alloc _ _)) hg (fun j hj => (HO2.out.lt j hj).1)); clear ho hg hnear))
            go_roundg (g1 - 1)
            case measure => have := HK.out; omega
            case rel => exact ⟨k + 1, a5, n5, p5, Lib.hid (by have := HK.out; omega), rfl, by go_num, Lib.hid (by rw [HNT.out]; exact HO5.out), X5⟩
    · have hkq : k = q := by have := HK.out; omega
      subst hkq
      go_wp2_with fail
      go_ret
      exact ⟨⟨_, rfl, by rw [HN.out]; exact HO0.out.mono (by have := HWS.out; omega)⟩, HX.out.trans XR0.out⟩
end Go.Proofs.Ytgohdmnbnhehnaa
