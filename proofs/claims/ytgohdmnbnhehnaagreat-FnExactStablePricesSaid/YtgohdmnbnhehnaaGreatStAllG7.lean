import Derived.Test.YtgohdmnbnhehnaaGreatStAllG0
import Derived.Test.YtgohdmnbnhehnaaGreatStAllG3
import Derived.Test.YtgohdmnbnhehnaaGreatStAllG1
namespace Go.Proofs.YtgohdmnbnhehnaaGreat
set_option linter.unusedVariables false
open Go.RowKit
def bit (s : Int) (k : Nat) : Bool := decide (s / 2 ^ k % 2 = 1)
def hasP (s k : Int) : Bool := decide (0 ≤ s) && (inB k 0 4 && bit s k.toNat)
def cntC (n : Int) : Int := if inB n 0 5 then 2 ^ n.toNat else 0
theorem and_i64 (a b : Nat) (ha : a < 9223372036854775808) (hb : b < 9223372036854775808) : bits .and .i64 (a : Int) (b : Int) = ((a &&& b : Nat) : Int) := by
  have hx : a &&& b < 2 ^ 63 := Nat.and_lt_two_pow _ (by omega)
  have h1 : (BitVec.ofInt 64 (a : Int)).toNat = a := by rw [BitVec.ofInt_natCast, BitVec.toNat_ofNat]; exact Nat.mod_eq_of_lt (by omega)
  have h2 : (BitVec.ofInt 64 (b : Int)).toNat = b := by rw [BitVec.ofInt_natCast, BitVec.toNat_ofNat]; exact Nat.mod_eq_of_lt (by omega)
  show IntKind.i64.wrap ((BitVec.ofInt 64 (a : Int) &&& BitVec.ofInt 64 (b : Int)).toNat : Int) = _
  rw [BitVec.toNat_and, h1, h2, IntKind.wrap_i64]
  omega
theorem and_one (x : Int) (h : 0 ≤ x) (h' : x ≤ 9223372036854775807) : bits BinOp.and IntKind.i64 x 1 = x % 2 := by
  obtain ⟨n, rfl⟩ : ∃ n : Nat, x = n := ⟨x.toNat, by omega⟩
  have := and_i64 n 1 (by omega) (by omega)
  rw [Nat.and_one_is_mod] at this
  have h2 : ((n % 2 : Nat) : Int) = (n : Int) % 2 := by omega
  exact this.trans h2
theorem pow_pos (k : Nat) : (1 : Int) ≤ 2 ^ k := by
  have : (0 : Int) < 2 ^ k := Int.pow_pos (by decide)
  omega
theorem pow_le5 (k : Nat) (h : k ≤ 5) : (2 : Int) ^ k ≤ 32 := by
  have : k = 0 ∨ k = 1 ∨ k = 2 ∨ k = 3 ∨ k = 4 ∨ k = 5 := by omega
  rcases this with rfl | rfl | rfl | rfl | rfl | rfl <;> decide
theorem div_pow (s : Int) (k : Nat) (h : 0 ≤ s) : 0 ≤ s / 2 ^ k ∧ s / 2 ^ k ≤ s := by
  have := pow_pos k
  exact ⟨Int.ediv_nonneg h (by omega), Int.ediv_le_self _ h⟩
theorem bit_test (s : Int) (k : Nat) (h : 0 ≤ s) (h' : s ≤ 9223372036854775807) : (bits BinOp.and IntKind.i64 (s / 2 ^ k) 1 == 1) = bit s k := by
  have := div_pow s k h
  rw [and_one _ this.1 (by omega)]
  unfold bit
  rw [Bool.eq_iff_iff]; simp
theorem wrap_pow (k : Nat) (h : k ≤ 5) : wrap64 ((2 : Int) ^ k) = 2 ^ k := by
  have := pow_pos k
  have := pow_le5 k h
  unfold wrap64; omega
set_option maxHeartbeats 400000 in
theorem i_HasPlayer (s k : Int) (w : World) (h' : s ≤ 9223372036854775807) :
    Calls Tryz.prog 113 #[.int .i64 s, .int .i64 k] w fun e w' => e = .returned (.bool (hasP s k)) ∧ w = w' := by
  by_cases hs : 0 ≤ s
  · cases hk : inB k 0 4
    · go_enter Tryz.func113, Tryz.ntmps113
      go_wp2_with (first | (go_at_call 62; refine (i_within _ _ _ _).mono ?_; rintro e w' ⟨rfl, rfl⟩))
      go_ret
      exact ⟨ret_bool (by unfold hasP; rw [hk]; simp), rfl⟩
    · obtain ⟨n, rfl⟩ : ∃ n : Nat, k = n := ⟨k.toNat, by unfold inB at hk; simp at hk; omega⟩
      have hn : n ≤ 4 := by unfold inB at hk; simp at hk; omega
      have hb := bit_test s n hs h'
      go_enter Tryz.func113, Tryz.ntmps113
      go_wp2_with (first | (go_at_call 62; refine (i_within _ _ _ _).mono ?_; rintro e w' ⟨rfl, rfl⟩))
      go_ret
      exact ⟨ret_bool (by unfold hasP; rw [hk]; simp [hs]), rfl⟩
  · go_enter Tryz.func113, Tryz.ntmps113
    go_wp2_with fail
    go_ret
    exact ⟨ret_bool (by unfold hasP; rw [decide_eq_false (by omega)]; rfl), rfl⟩
set_option maxHeartbeats 400000 in
theorem i_CountCoalitions (n : Int) (w : World) : Calls Tryz.prog 65 #[.int .i64 n] w fun e w' => e = .returned (.int .i64 (cntC n)) ∧ w = w' := by
  cases hk : inB n 0 5
  · go_enter Tryz.func65, Tryz.ntmps65
    go_wp2_with (first | (go_at_call 62; refine (i_within _ _ _ _).mono ?_; rintro e w' ⟨rfl, rfl⟩))
    go_ret
    exact ⟨ret_int (by unfold cntC; rw [hk]; rfl), rfl⟩
  · obtain ⟨k, rfl⟩ : ∃ k : Nat, n = k := ⟨n.toNat, by unfold inB at hk; simp at hk; omega⟩
    have hn : k ≤ 5 := by unfold inB at hk; simp at hk; omega
    have hw := wrap_pow k hn
    go_enter Tryz.func65, Tryz.ntmps65
    go_wp2_with (first | (go_at_call 62; refine (i_within _ _ _ _).mono ?_; rintro e w' ⟨rfl, rfl⟩))
    go_ret
    exact ⟨ret_int (by unfold cntC; rw [hk]; simpa using wrap_pow k hn), rfl⟩
set_option maxHeartbeats 400000 in
theorem s_CountCoalitions (n : Int) (w : World) : Calls Tryz.prog 58 #[.int .i64 n] w fun e w' => e = .returned (.int .i64 (cntC n)) ∧ w = w' := by
  cases hk : inB n 0 5
  · go_enter Tryz.func58, Tryz.ntmps58
    go_wp2_with (first | (go_at_call 56; refine (s_l1In _ _ _ _).mono ?_; rintro e w' ⟨rfl, rfl⟩))
    go_ret
    exact ⟨ret_int (by unfold cntC; rw [hk]; rfl), rfl⟩
  · obtain ⟨m, rfl⟩ : ∃ k : Nat, n = k := ⟨n.toNat, by unfold inB at hk; simp at hk; omega⟩
    have hn : m ≤ 5 := by unfold inB at hk; simp at hk; omega
    go_enter Tryz.func58, Tryz.ntmps58
    go_wp2_with (first | (go_at_call 56; refine (s_l1In _ _ _ _).mono ?_; rintro e w' ⟨rfl, rfl⟩))
    go_loop [3, 4] (fun s i => ∃ (k : Nat) (z : Int), k ≤ m ∧ i = .int .i64 k ∧ s = .int .i64 z ∧ 0 ≤ z ∧ z ≤ 32 ∧ Hid (z = 2 ^ k)) (fun _ i => m - (intOf i).toNat)
    case atStart => exact ⟨0, 1, Nat.zero_le _, rfl, rfl, by omega, by omega, Lib.hid (by simp)⟩
    case round =>
      obtain ⟨k, z, hkm, rfl, rfl, hz0, hz1, HZ⟩ := hrel
      by_cases hlt : k < m
      · go_wp2
        go_round
        case rel =>
          refine ⟨k + 1, z * 2, by omega, by go_num, rfl, by omega, ?_, Lib.hid (by rw [HZ.out, Int.pow_succ])⟩
          have := pow_le5 (k + 1) (by omega)
          rw [Int.pow_succ, ← HZ.out] at this
          exact this
        case measure => simp [intOf]; omega
      · go_wp2
        go_ret
        have hkm' : k = m := by omega
        subst hkm'
        exact ⟨ret_int (by unfold cntC; rw [hk]; simpa using HZ.out), rfl⟩
theorem cntC_bit (k : Int) (h : inB k 0 4 = true) : cntC k = 2 ^ k.toNat := by
  unfold cntC
  rw [if_pos]
  unfold inB at *
  simp at *; omega
set_option maxHeartbeats 400000 in
theorem s_l2Bit (n : Int) (w : World) : Calls Tryz.prog 127 #[.int .i64 n] w fun e w' => e = .returned (.int .i64 (cntC n)) ∧ w = w' := by
  go_enter Tryz.func127, Tryz.ntmps127
  go_wp2_with (first | (go_at_call 58; refine (s_CountCoalitions _ _).mono ?_; rintro e w' ⟨rfl, rfl⟩))
  go_ret
  exact ⟨rfl, rfl⟩
set_option maxHeartbeats 400000 in
theorem s_HasPlayer (s k : Int) (w : World) (h' : s ≤ 9223372036854775807) :
    Calls Tryz.prog 60 #[.int .i64 s, .int .i64 k] w fun e w' => e = .returned (.bool (hasP s k)) ∧ w = w' := by
  cases hk : inB k 0 4
  · go_enter Tryz.func60, Tryz.ntmps60
    go_wp2_with (first | (go_at_call 56; refine (s_l1In _ _ _ _).mono ?_; rintro e w' ⟨rfl, rfl⟩))
    go_ret
    exact ⟨ret_bool (by unfold hasP; rw [hk]; simp), rfl⟩
  · by_cases hs : 0 ≤ s
    · obtain ⟨n, rfl⟩ : ∃ n : Nat, k = n := ⟨k.toNat, by unfold inB at hk; simp at hk; omega⟩
      have hn : n ≤ 4 := by unfold inB at hk; simp at hk; omega
      have hc : cntC (n : Int) = 2 ^ n := by rw [cntC_bit _ hk]; simp
      have hp := pow_pos n
      have hd := div_pow s n hs
      have hd1 := hd.1
      have hne : ((2 : Int) ^ n == 0) = false := by simp; omega
      have HB := Lib.hid (show (s / 2 ^ n % 2 == 1) = bit s n by unfold bit; rw [Bool.eq_iff_iff]; simp)
      have HD := Lib.hid hd
      clear hd
      go_enter Tryz.func60, Tryz.ntmps60
      go_wp2_with (first | (go_at_call 56; refine (s_l1In _ _ _ _).mono ?_; rintro e w' ⟨rfl, rfl⟩) | (go_at_call 127; refine (s_l2Bit _ _).mono ?_; rintro e w' ⟨rfl, rfl⟩))
      go_ret
      exact ⟨ret_bool (by rw [HB.out]; unfold hasP; rw [hk]; simp [hs]), rfl⟩
    · go_enter Tryz.func60, Tryz.ntmps60
      go_wp2_with (first | (go_at_call 56; refine (s_l1In _ _ _ _).mono ?_; rintro e w' ⟨rfl, rfl⟩))
      go_ret
      exact ⟨ret_bool (by unfold hasP; rw [decide_eq_false (by omega)]; rfl), rfl⟩
def bitI (b : Bool) : Int := if b then 1 else 0
set_option maxHeartbeats 400000 in
theorem s_l1Bit (b : Bool) (w : World) : Calls Tryz.prog 59 #[.bool b] w fun e w' => e = .returned (.int .i64 (bitI b)) ∧ w = w' := by
  cases b
  all_goals
    go_enter Tryz.func59, Tryz.ntmps59
    go_wp2
    go_ret
    exact ⟨rfl, rfl⟩
theorem hasP_bit (s : Int) (k : Nat) (h : 0 ≤ s) (hk : k ≤ 4) : hasP s (k : Int) = bit s k := by
  unfold hasP inB
  rw [decide_eq_true h, decide_eq_true (by omega), decide_eq_true (by omega)]
  simp
def cN (n : Nat) : Nat := 2 ^ n
theorem cN_pow (n : Nat) : (cN n : Int) = 2 ^ n := by unfold cN; simp
theorem cN_le (n : Nat) (h : n ≤ 5) : 1 ≤ cN n ∧ cN n ≤ 32 := by
  have h1 := pow_pos n
  have h2 := pow_le5 n h
  rw [← cN_pow] at h1 h2
  omega
theorem cntC_nat (n : Nat) (h : n ≤ 5) : cntC (n : Int) = (cN n : Int) := by
  unfold cntC
  rw [if_pos (by unfold inB; simp; omega), cN_pow]; simp
theorem i_CountC (n : Nat) (h : n ≤ 5) (w : World) : Calls Tryz.prog 65 #[.int .i64 (n : Int)] w fun e w' => e = .returned (.int .i64 (cN n : Int)) ∧ w = w' := by
  have := i_CountCoalitions n w
  rwa [cntC_nat n h] at this
end Go.Proofs.YtgohdmnbnhehnaaGreat
namespace Go.Proofs.YtgohdmnbnhehnaaGreat
set_option linter.unusedVariables false
def SimR (n : Nat) (a b : List Int) : Prop := ∃ u v : Int, u ≠ 0 ∧ v ≠ 0 ∧ ∀ j, j < n → u * a[j]?.getD 0 = v * b[j]?.getD 0
theorem SimR.refl (n : Nat) (a : List Int) : SimR n a a := ⟨1, 1, by omega, by omega, fun _ _ => rfl⟩
theorem SimR.zero {n : Nat} {a b : List Int} (h : SimR n a b) {j : Nat} (hj : j < n) : a[j]?.getD 0 = 0 ↔ b[j]?.getD 0 = 0 := by
  obtain ⟨u, v, hu, hv, h⟩ := h
  have := h j hj
  constructor
  · intro e; rw [e, Int.mul_zero] at this
    rcases Int.mul_eq_zero.1 this.symm with h | h
    · exact absurd h hv
    · exact h
  · intro e; rw [e, Int.mul_zero] at this
    rcases Int.mul_eq_zero.1 this with h | h
    · exact absurd h hu
    · exact h
structure SimM (n : Nat) (M K : List (List Int)) : Prop where
  len : M.length = K.length
  row : ∀ i, i < M.length → SimR n (M[i]?.getD []) (K[i]?.getD [])
end Go.Proofs.YtgohdmnbnhehnaaGreat
namespace Go.Proofs.YtgohdmnbnhehnaaGreat
set_option linter.unusedVariables false
open Go.RowKit
structure Mat (w : World) (base : Nat) (a : Option Addr) (N cap : Nat) (vs : List Value) (M : List (List Int)) : Prop where
  own : OwnV w base (.slice a N cap) vs
  rows : RowsI w base vs M
theorem Mat.vlen {w : World} {base : Nat} {a : Option Addr} {N cap : Nat} {vs : List Value} {M : List (List Int)} (h : Mat w base a N cap vs M) : vs.length = N := h.own.len
theorem Mat.len {w : World} {base : Nat} {a : Option Addr} {N cap : Nat} {vs : List Value} {M : List (List Int)} (h : Mat w base a N cap vs M) : M.length = N := by rw [← h.rows.len]; exact h.own.len
theorem Mat.cap {w : World} {base : Nat} {a : Option Addr} {N cap : Nat} {vs : List Value} {M : List (List Int)} (h : Mat w base a N cap vs M) : N ≤ cap ∧ cap ≤ 9223372036854775807 := by
  obtain ⟨a', c', he, h1, h2⟩ := h.own.form
  simp only [Value.slice.injEq] at he
  obtain ⟨_, h3, rfl⟩ := he
  exact ⟨by omega, h2⟩
theorem Mat.keep {w w' : World} {base : Nat} {a : Option Addr} {N cap : Nat} {vs : List Value} {M : List (List Int)} (h : Mat w base a N cap vs M) (h0 : ∀ k, (Value.slice a N cap).ownBlock = some k → w'.heap[k]? = w.heap[k]?)
    (h1 : ∀ i k, i < N → (vs[i]?.getD undef).ownBlock = some k → w'.heap[k]? = w.heap[k]?) : Mat w' base a N cap vs M :=
  ⟨h.own.keep h0, h.rows.keep fun i k hi hk => h1 i k (by rw [← h.len]; exact hi) hk⟩
theorem Mat.ext {w w' : World} {base : Nat} {a : Option Addr} {N cap : Nat} {vs : List Value} {M : List (List Int)} (h : Mat w base a N cap vs M) (hx : Ext w w') : Mat w' base a N cap vs M := ⟨h.own.ext hx, h.rows.ext hx⟩
theorem Mat.intss {w : World} {base : Nat} {a : Option Addr} {N cap : Nat} {vs : List Value} {M : List (List Int)} (h : Mat w base a N cap vs M) : IntSS w a N cap M :=
  OwnSS.intss ⟨vs, h.own, h.rows⟩
theorem Mat.outer {w : World} {base : Nat} {a : Option Addr} {N cap : Nat} {vs : List Value} {M : List (List Int)} (h : Mat w base a N cap vs M) (hN : 0 < N) : ∃ G, a = some ⟨G, 0, none⟩ ∧ base ≤ G ∧ G < w.heap.size ∧ ∀ j, w.frozen? ⟨G, j, none⟩ = false := by
  rcases h.own.2 with ⟨he, h0⟩ | ⟨g, cap', cur, he, hb, hg, _⟩
  · simp only [Value.slice.injEq] at he
    omega
  · simp only [Value.slice.injEq] at he
    obtain ⟨rfl, _⟩ := he
    exact ⟨g, rfl, hb, lt_of_block hg, fun j => frozen_of_row w g j cur _ hg⟩
theorem Mat.row {w : World} {base G N cap : Nat} {vs : List Value} {M : List (List Int)} (h : Mat w base (some ⟨G, 0, none⟩) N cap vs M) {i n : Nat} (hi : i < N) (hn : (M[i]?.getD []).length = n) (h1 : 1 ≤ n) :
    ∃ g c, vs[i]?.getD undef = .slice (some ⟨g, 0, none⟩) n c ∧ w.cell? ⟨G, i, none⟩ = some (.slice (some ⟨g, 0, none⟩) n c) ∧ OwnI w base (.slice (some ⟨g, 0, none⟩) n c) (M[i]?.getD []) ∧ g ≠ G ∧ base ≤ g ∧ g < w.heap.size ∧ n ≤ c ∧ c ≤ 9223372036854775807 := by
  have hr := h.rows.row i (by rw [h.len]; exact hi)
  obtain ⟨a', c, he, hc1, hc2⟩ := hr.form
  rw [he] at hr
  rw [hn] at he hr hc1
  obtain ⟨g, rfl, hb, _, hgl⟩ := hr.block (k := 0) (by omega)
  obtain ⟨G', hG, _, hc⟩ := h.own.cell hi
  simp only [Option.some.injEq, Addr.mk.injEq, and_true] at hG
  subst hG
  refine ⟨g, c, he, ?_, hr, fun e => hr.apart h.own g rfl (by subst e; rfl), hb, hgl, hc1, hc2⟩
  rw [hc i hi, ← he]
  have : i < vs.length := by rw [h.vlen]; exact hi
  simp [this]
theorem Mat.inrow {w : World} {base G N cap : Nat} {vs : List Value} {M : List (List Int)} (h : Mat w base (some ⟨G, 0, none⟩) N cap vs M) {i n g c : Nat} (hi : i < N) (hv : vs[i]?.getD undef = .slice (some ⟨g, 0, none⟩) n c) (j : Nat) (x : Int) :
    Mat (w.setCell ⟨g, j, none⟩ (.int .i64 x)) base (some ⟨G, 0, none⟩) N cap vs (M.set i ((M[i]?.getD []).set j x)) := by
  have hil : i < M.length := by rw [h.len]; exact hi
  have hr := h.rows.row i hil
  rw [hv] at hr
  have hgG : g ≠ G := fun e => hr.apart h.own g rfl (by subst e; rfl)
  refine ⟨h.own.keep fun k hk => heap_setCell_other _ _ _ _ (by simp only [Value.ownBlock, Option.some.injEq] at hk; show k ≠ g; omega), ?_⟩
  refine ⟨by rw [List.length_set]; exact h.rows.len, fun k hk => ?_, fun a b k hab hb => h.rows.apart a b k hab (by rw [List.length_set] at hb; exact hb)⟩
  rw [List.length_set] at hk
  by_cases hki : k = i
  · subst hki
    rw [hv, List.getElem?_set_self hil]
    exact hr.set j x
  · rw [List.getElem?_set_ne (Ne.symm hki)]
    refine (h.rows.row k hk).keep fun b hb => heap_setCell_other _ _ _ _ fun e => ?_
    subst e
    rcases Nat.lt_or_gt_of_ne hki with hlt | hlt
    · exact h.rows.apart k i _ hlt hil hb (by rw [hv]; rfl)
    · exact h.rows.apart i k _ hlt hk (by rw [hv]; rfl) hb
theorem Mat.put {w0 w : World} {base G N cap : Nat} {vs : List Value} {M : List (List Int)} (h : Mat w0 base (some ⟨G, 0, none⟩) N cap vs M) (hx : Ext w0 w) (hb : base ≤ w0.heap.size) {v : Value} {l : List Int} (ho : OwnI w w0.heap.size v l) {i : Nat} (hi : i < N) :
    Mat (w.setCell ⟨G, i, none⟩ v) base (some ⟨G, 0, none⟩) N cap (vs.set i v) (M.set i l) := by
  have hil : i < M.length := by rw [h.len]; exact hi
  have hvl : i < vs.length := by rw [h.vlen]; exact hi
  have hW := h.ext hx
  obtain ⟨G', hG, hbG, hGl, _⟩ := h.outer (by omega)
  simp only [Option.some.injEq, Addr.mk.injEq, and_true] at hG
  subst hG
  have hother : ∀ k, k ≠ G → (w.setCell ⟨G, i, none⟩ v).heap[k]? = w.heap[k]? := fun k hk => heap_setCell_other _ _ _ _ hk
  refine ⟨?_, ⟨by rw [List.length_set, List.length_set]; exact h.rows.len, fun k hk => ?_, fun a b k hab hb2 hk hk2 => ?_⟩⟩
  · have ho := hW.own
    unfold OwnV at ho
    rw [hW.vlen] at ho
    have := (World.ownsRow.stored ho i v).1
    unfold OwnV
    rw [List.length_set, hW.vlen]
    exact this
  · rw [List.length_set] at hk
    by_cases hki : k = i
    · subst hki
      rw [List.getElem?_set_self hvl, List.getElem?_set_self hil]
      exact (ho.keep fun b hb' => hother b (by have := (ho.lt b hb').1; omega)).mono hb
    · rw [List.getElem?_set_ne (Ne.symm hki), List.getElem?_set_ne (Ne.symm hki)]
      refine (hW.rows.row k hk).keep fun b hb' => hother b fun e => ?_
      subst e
      exact (hW.rows.row k hk).apart hW.own _ hb' rfl
  · rw [List.length_set] at hb2
    by_cases hai : a = i
    · subst hai
      rw [List.getElem?_set_self hvl] at hk
      rw [List.getElem?_set_ne (by omega)] at hk2
      have h1 := (ho.lt k hk).1
      have h2 := ((h.rows.row b hb2).lt k hk2).2
      omega
    · rw [List.getElem?_set_ne (Ne.symm hai)] at hk
      by_cases hbi : b = i
      · subst hbi
        rw [List.getElem?_set_self hvl] at hk2
        have h1 := (ho.lt k hk2).1
        have h2 := ((h.rows.row a (by omega)).lt k hk).2
        omega
      · rw [List.getElem?_set_ne (Ne.symm hbi)] at hk2
        exact h.rows.apart a b k hab hb2 hk hk2
theorem RowsI.grownV {w w' : World} {base base' : Nat} {v : Value} {vs : List Value} {L : List (List Int)} (h : RowsI w base vs L) {us : List Value} (hv : OwnV w base' v us) (hg : w.grownBy w' v.ownBlock) : RowsI w' base vs L :=
  h.keep fun i k hi hk => hg.block k ((h.row i hi).lt k hk).2 fun e => (h.row i hi).apart hv k hk e.symm
end Go.Proofs.YtgohdmnbnhehnaaGreat
