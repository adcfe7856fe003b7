/- The weighted sums of what a player adds, divided: the program's averages. -/
import Derived.Test.YtgohdmnbnhehnaaMade
import Derived.Test.YtgohdmnbnhehnaaOwnR
import Derived.Test.YtgohdmnbnhehnaaRatOps
namespace Go.Proofs.Ytgohdmnbnhehnaa
set_option linter.unusedVariables false
set_option linter.unusedSimpArgs false
set_option maxRecDepth 100000
open Go.RowKit

/-- How many of five players are in a coalition. -/
def popN (s : Nat) : Nat := (List.range 5).countP fun k => bit (s : Int) k
theorem popN_le (s : Nat) : popN s ≤ 5 := by unfold popN; exact Nat.le_trans List.countP_le_length (by simp)

theorem i_OnesCount64 (s : Nat) (hs : s < 32) (w : World) : Calls Try.prog 144 #[.int .u64 (s : Int)] w fun e w' => e = .returned (.int .i64 (popN s)) ∧ w = w' := by
  go_enter Try.func144, Try.ntmps144
  go_wp2
  go_ret
  refine ⟨ret_int ?_, rfl⟩
  clear w
  revert s
  decide +kernel
theorem i_OnesCount (s : Nat) (hs : s < 32) (w : World) : Calls Try.prog 123 #[.int .u64 (s : Int)] w fun e w' => e = .returned (.int .i64 (popN s)) ∧ w = w' := by
  go_enter Try.func123, Try.ntmps123
  go_wp2_with (first | (go_at_call 144; refine (i_OnesCount64 s hs _).mono ?_; rintro e w' ⟨rfl, rfl⟩))
  go_ret
  exact ⟨rfl, rfl⟩

theorem or_bit_nat : ∀ s : Fin 32, ∀ k : Fin 5, bit ((s.val : Nat) : Int) k.val = false → bits .or .i64 ((s.val : Nat) : Int) (2 ^ k.val) = ((s.val : Nat) : Int) + 2 ^ k.val := by decide +kernel
theorem or_bit {s k : Nat} (hs : s < 32) (hk : k < 5) (h : bit (s : Int) k = false) : bits .or .i64 (s : Int) (2 ^ k) = (s : Int) + 2 ^ k := or_bit_nat ⟨s, hs⟩ ⟨k, hk⟩ h
theorem up_lt_nat : ∀ n : Fin 6, ∀ s : Fin 32, ∀ k : Fin 5, s.val < cN n.val → k.val < n.val → bit ((s.val : Nat) : Int) k.val = false → s.val + 2 ^ k.val < cN n.val := by decide +kernel
theorem up_lt {n s k : Nat} (hn : n ≤ 5) (hs : s < cN n) (hk : k < n) (h : bit (s : Int) k = false) : s + 2 ^ k < cN n :=
  up_lt_nat ⟨n, by omega⟩ ⟨s, by have := cN_le n hn; omega⟩ ⟨k, by omega⟩ hs hk h
theorem bit_test0 (s : Int) (k : Nat) (h : 0 ≤ s) (h' : s ≤ 9223372036854775807) : (bits BinOp.and IntKind.i64 (s / 2 ^ k) 1 == 0) = !bit s k := by
  have h1 := div_pow s k h
  rw [and_one _ h1.1 (by omega)]
  unfold bit
  have : s / 2 ^ k % 2 = 0 ∨ s / 2 ^ k % 2 = 1 := by omega
  rcases this with h | h <;> simp [h]

theorem kwrap_pow' (k : Nat) (h : k ≤ 5) : IntKind.i64.wrap ((2 : Int) ^ k) = 2 ^ k := by
  have := pow_pos k
  have := pow_le5 k h
  rw [IntKind.wrap_i64]; omega

/-- What the coalitions below m add for player k, by weights. -/
def avgS (wt : Nat → Int) (V : List Int) (k : Nat) : Nat → Int
  | 0 => 0
  | m + 1 => avgS wt V k m + (if bit (m : Int) k = true then 0 else wt (popN m) * (V[m + 2 ^ k]?.getD 0 - V[m]?.getD 0))
def avgR (wt : Nat → Int) (V : List Int) (d : Int) (k : Nat) : Int × Int := (ratOf (avgS wt V k V.length) d).1
def avgT (wt : Nat → Int) (V : List Int) (d : Int) (m : Nat) : List (Int × Int) := (List.range m).map (avgR wt V d)
theorem avgT_zero (wt : Nat → Int) (V : List Int) (d : Int) : avgT wt V d 0 = [] := rfl
theorem avgT_succ (wt : Nat → Int) (V : List Int) (d : Int) (m : Nat) : avgT wt V d (m + 1) = avgT wt V d m ++ [avgR wt V d m] := by simp [avgT, List.range_succ]
theorem avgT_len (wt : Nat → Int) (V : List Int) (d : Int) (m : Nat) : (avgT wt V d m).length = m := by simp [avgT]
theorem getD_bd {V : List Int} (hV : ∀ x ∈ V, -500 ≤ x ∧ x ≤ 500) (k : Nat) : -500 ≤ V[k]?.getD 0 ∧ V[k]?.getD 0 ≤ 500 := by
  by_cases h : k < V.length
  · have := hV _ (List.getElem_mem h); simpa [h] using this
  · simp [List.getElem?_eq_none (by omega : V.length ≤ k)]
theorem wt_bd {x y : Int} (h1 : -1000 ≤ x) (h2 : x ≤ 1000) (h3 : -1000 ≤ y) (h4 : y ≤ 1000) : -1000000 ≤ x * y ∧ x * y ≤ 1000000 := by
  have h : (x * y).natAbs ≤ 1000 * 1000 := by rw [Int.natAbs_mul]; exact Nat.mul_le_mul (by omega) (by omega)
  omega
theorem avgS_bd {wt : Nat → Int} {V : List Int} (hV : ∀ x ∈ V, -500 ≤ x ∧ x ≤ 500) (hw : ∀ i, -1000 ≤ wt i ∧ wt i ≤ 1000) (k : Nat) : ∀ m : Nat, -(1000000 * m : Int) ≤ avgS wt V k m ∧ avgS wt V k m ≤ 1000000 * m
  | 0 => by simp [avgS]
  | m + 1 => by
    have ih := avgS_bd hV hw k m
    unfold avgS
    have h1 := getD_bd hV (m + 2 ^ k)
    have h2 := getD_bd hV m
    have h3 := hw (popN m)
    have h4 := wt_bd h3.1 h3.2 (y := V[m + 2 ^ k]?.getD 0 - V[m]?.getD 0) (by omega) (by omega)
    split <;> omega

set_option maxHeartbeats 4000000 in
theorem i_averages {w : World} {n : Nat} {a : Option Addr} {m cap : Nat} {V : List Int} {fid : FuncId} {ca : Array Value} {wt : Nat → Int} {d : Int} (h : Ints w a m cap V) (h1 : 1 ≤ n) (h5 : n ≤ 5) (hm : m = cN n) (hV : ∀ x ∈ V, -500 ≤ x ∧ x ≤ 500) (hw : ∀ i, -1000 ≤ wt i ∧ wt i ≤ 1000)
    (hg : IsGo Try.prog fid) (hf : Tells Try.prog w fid ca 6 wt) :
    Calls Try.prog 60 #[pair n a m cap, .func (.func fid) #[] ca, .int .i64 d] w fun e w' => (∃ v, e = .returned v ∧ OwnR w' w.heap.size v (avgT wt V d n)) ∧ Ext w w' := by
  have hN := cN_le n h5
  have hcf : ∀ (args : Array Value) (w : World), (callFunc fid args).run Try.prog w = .ok (.enter fid args) w := hg
  have hi := h.alloc (.cells #[.int .i64 (n : Int), .slice a m cap] 26)
  have HX := Lib.hid (Ext.alloc w (.cells #[.int .i64 (n : Int), .slice a m cap] 26))
  have HL := Lib.hid h.hlen
  have HI := Lib.hid hi
  have HF := Lib.hid (hf.ext HX.out)
  have HO := Lib.hid (OwnR.made (w.alloc (.cells #[.int .i64 (n : Int), .slice a m cap] 26)) (w.heap.size + 1) (by simp))
  have hmax := h.hmax
  have hcap := h.hcap
  have HV := Lib.hid hV
  have HW := Lib.hid hw
  have HMM := Lib.hid hm
  have hm32 : m ≤ 32 := by omega
  clear h hi hf hg hV hw hm hN
  go_enter Try.func60, Try.ntmps60
  go_wp2
  go_loopw [7, 17] (fun o i wr => ∃ (k : Nat) (a1 : Option Addr) (n1 p1 : Nat), k ≤ n ∧ i = .int .i64 (k : Int) ∧ o = .slice a1 n1 p1 ∧ Hid (OwnR wr (w.heap.size + 1) (.slice a1 n1 p1) (avgT wt V d k)) ∧ Hid (Ext (w.alloc (.cells #[.int .i64 (n : Int), .slice a m cap] 26)) wr)) (fun _ i _ => n - (intOf i).toNat)
  case atStart => exact ⟨0, _, _, _, Nat.zero_le _, rfl, rfl, Lib.hid (by rw [avgT_zero]; simpa using HO.out), Lib.hid (Ext.alloc _ _)⟩
  case round =>
    obtain ⟨k, a1, n1, p1, hk, rfl, rfl, HO1, HX1⟩ := hrel
    have c0 : wr.cell? ⟨w.heap.size, 0, none⟩ = some (.int .i64 (n : Int)) := HX1.out.cellSome (by simp)
    have c1 : wr.cell? ⟨w.heap.size, 1, none⟩ = some (.slice a m cap) := HX1.out.cellSome (by simp)
    by_cases hlt : k < n
    · have HI1 := Lib.hid (HI.out.ext HX1.out)
      have HF1 := Lib.hid (HF.out.ext HX1.out)
      have hp := pow_pos k
      have hp5 := pow_le5 k (by omega)
      go_wp2
      go_loopw [9, 23] (fun t i wr2 => ∃ (j : Nat), j ≤ m ∧ i = .int .i64 (j : Int) ∧ t = .int .i64 (avgS wt V k j) ∧ Hid (Ext wr wr2)) (fun _ i _ => m - (intOf i).toNat)
      case atStart => exact ⟨0, Nat.zero_le _, rfl, rfl, Lib.hid (Ext.refl _)⟩
      case round =>
        obtain ⟨j, hj, rfl, ht, HX2⟩ := hrel
        obtain ⟨T, hT⟩ : ∃ T, T = avgS wt V k j := ⟨_, rfl⟩
        have hTb := avgS_bd HV.out HW.out k j
        rw [← hT] at ht hTb
        subst ht
        have HT := Lib.hid hT
        clear hT
        have c1' := HX2.out.cellSome c1
        by_cases hlt2 : j < m
        · have HI2 := Lib.hid (HI1.out.ext HX2.out)
          obtain ⟨b, off, he, hc⟩ := HI2.out.at hlt2
          have hv1 := getD_bd HV.out j
          obtain ⟨v1, hy1⟩ : ∃ y, y = V[j]?.getD 0 := ⟨_, rfl⟩
          rw [← hy1] at hc hv1
          have HY1 := Lib.hid hy1
          clear hy1
          subst he
          have hb := bit_test0 (j : Int) k (by omega) (by omega)
          cases hbit : bit (j : Int) k
          · rw [hbit] at hb
            have HB := Lib.hid hbit
            have hu := up_lt h5 (by rw [← HMM.out]; exact hlt2) hlt hbit
            have hor := or_bit (s := j) (k := k) (by omega) (by omega) hbit
            obtain ⟨u, hu'⟩ : ∃ u : Nat, u = j + 2 ^ k := ⟨_, rfl⟩
            have hui : (j : Int) + 2 ^ k = (u : Int) := by rw [hu']; simp
            have hum : u < m := by rw [HMM.out, hu']; exact hu
            rw [hui] at hor
            obtain ⟨b2, off2, he2, hc2⟩ := HI2.out.at hum
            simp only [Option.some.injEq, Addr.mk.injEq, and_true] at he2
            obtain ⟨rfl, rfl⟩ := he2
            have hv2 := getD_bd HV.out u
            obtain ⟨v2, hy2⟩ : ∃ y, y = V[u]?.getD 0 := ⟨_, rfl⟩
            rw [← hy2] at hc2 hv2
            have HY2 := Lib.hid hy2
            have HU := Lib.hid hu'
            clear hy2 hbit hu hui hu'
            have hwb := HW.out (popN j)
            obtain ⟨W, hWt⟩ : ∃ W, W = wt (popN j) := ⟨_, rfl⟩
            rw [← hWt] at hwb
            have HWt := Lib.hid hWt
            clear hWt
            have hmul := wt_bd hwb.1 hwb.2 (y := v2 - v1) (by omega) (by omega)
            obtain ⟨X, hX⟩ : ∃ X, X = W * (v2 - v1) := ⟨_, rfl⟩
            rw [← hX] at hmul
            have HXX := Lib.hid hX
            have e1 : IntKind.i64.wrap (v2 - v1) = v2 - v1 := by rw [IntKind.wrap_i64]; omega
            have e2 : IntKind.i64.wrap (W * (v2 - v1)) = X := by rw [← hX, IntKind.wrap_i64]; omega
            have e3 : IntKind.i64.wrap (T + X) = T + X := by rw [IntKind.wrap_i64]; omega
            have e4 := kwrap_pow' k (by omega)
            have HU64 := Lib.hid (show IntKind.u64.wrap (j : Int) = (j : Int) by simp only [IntKind.wrap, IntKind.bits, IntKind.signed]; simp; omega)
            have hk2 : Ext wr wr.drew := Ext.drew wr
            have hum32 : u ≤ 32 := by omega
            clear hX hmul hwb hv1 hv2 hTb hp hp5
            go_wp2
            go_region_held3 (fun w' => w'.cell? ⟨w.heap.size, 1, none⟩ = some (.slice (some ⟨b, off, none⟩) m cap) ∧ w'.cell? ⟨b, off + u, none⟩ = some (.int .i64 v2) ∧ Ext wr w')
              (exact ⟨hk2.cellSome c1', hk2.cellSome hc2, hk2⟩)
              (first
                | (go_at_call 123; rw [HU64.out]; refine (i_OnesCount j (by omega) _).mono ?_; rintro e w' ⟨rfl, rfl⟩)
                | (refine (HF1.out (popN j) _ (by have := popN_le j; omega) (HX2.out.trans hk2)).mono ?_; rw [← HWt.out]; rintro e w5 ⟨rfl, hx5⟩; have hk2 := hk2.trans hx5))
            go_wp2
            go_roundw
            case rel => exact ⟨j + 1, by omega, by go_num, by unfold avgS; rw [HB.out, ← HT.out, ← HWt.out, ← HU.out, ← HY2.out, ← HY1.out, ← HXX.out]; simp [go_sem, e3], Lib.hid (HX2.out.trans hk2)⟩
            case measure => simp [intOf]; omega
          · rw [hbit] at hb
            have HB := Lib.hid hbit
            clear hbit
            go_wp2
            go_roundw
            case rel => exact ⟨j + 1, by omega, by go_num, by unfold avgS; rw [HB.out, ← HT.out]; simp, HX2⟩
            case measure => simp [intOf]; omega
        · have hjm : j = m := by omega
          subst hjm
          obtain ⟨p, q, ok, hpq⟩ : ∃ p q ok, ratOf T d = ((p, q), ok) := ⟨_, _, _, rfl⟩
          have HPQ := Lib.hid hpq
          have X12 := Lib.hid (HX1.out.trans HX2.out)
          have HO2 := Lib.hid (HO1.out.ext HX2.out)
          have hsz2 : w.heap.size + 1 ≤ wr.heap.size := by have := X12.out.size; simpa using this
          clear hpq
          go_wp2_with fail
          refine (i_RatOf _ _ _).mono ?_
          rw [HPQ.out]
          rintro e w3 ⟨rfl, hx3⟩
          have X3 := Lib.hid (X12.out.trans hx3)
          have HO3 := Lib.hid (HO2.out.ext hx3)
          have hsz3 := hx3.size
          clear hx3
          go_wp2_with (first
            | (at_builtin; refine append_rats rfl _ _ rfl (w.heap.size + 1) (.slice a1 n1 p1) _ rfl ((HO3.out.ext (Ext.alloc _ _)).ext (Ext.alloc _ _)) _ 1 _ [(p, q)] rfl (Rats.one' _ _ _ _ _ (by simp)) (by rw [avgT_len]; omega) (by simp; omega) ?_; intro v2 w4 ho hg hnear; obtain ⟨a2, n2, c2, rfl, HN2⟩ := ho.var; have HO4 := Lib.hid ho; have HG4 := Lib.hid hg; clear ho hg hnear))
          go_roundw
          case rel =>
            refine ⟨k + 1, a2, n2, c2, by omega, by go_num, rfl, Lib.hid ?_, Lib.hid ?_⟩
            · rw [avgT_succ, avgR, HL.out, ← HT.out, HPQ.out]; exact HO4.out
            · exact ext_grown (X3.out.trans ((Ext.alloc _ _).trans (Ext.alloc _ _))) HG4.out (fun j hj => by have := (HO3.out.lt j hj).1; simpa using this)
          case measure => simp [intOf]; omega
    · go_wp2
      go_ret
      have hkn : k = n := by omega
      subst hkn
      exact ⟨⟨_, rfl, HO1.out.mono (by omega)⟩, HX.out.trans HX1.out⟩

end Go.Proofs.Ytgohdmnbnhehnaa
