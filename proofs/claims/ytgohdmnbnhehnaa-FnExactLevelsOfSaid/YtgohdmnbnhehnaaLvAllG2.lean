import Derived.Test.YtgohdmnbnhehnaaLvAllG1
import Derived.Test.YtgohdmnbnhehnaaLvAllG0
namespace Go.Proofs.Ytgohdmnbnhehnaa
set_option linter.unusedVariables false
set_option linter.unusedSimpArgs false
open Go.RowKit
structure Fixs (w : World) (a : Option Addr) (n cap : Nat) (l : List (Int × Int × Int)) : Prop where
 hlen : l.length = n
 hcap : n ≤ cap
 hmax : cap ≤ 9223372036854775807
 cell : ∀ k, k < n → ∃ b off, a = some ⟨b, off, none⟩ ∧ ∀ k, k < n → w.cell? ⟨b, off + k * 3, none⟩ = some (.int .i64 (l[k]?.getD (0, 0, 0)).1) ∧ w.cell? ⟨b, off + k * 3 + 1, none⟩ = some (.int .i64 (l[k]?.getD (0, 0, 0)).2.1) ∧ w.cell? ⟨b, off + k * 3 + 2, none⟩ = some (.int .i64 (l[k]?.getD (0, 0, 0)).2.2)
theorem Fixs.ext {w w' : World} {a : Option Addr} {n cap : Nat} {l : List (Int × Int × Int)} (h : Fixs w a n cap l) (hx : Ext w w') : Fixs w' a n cap l :=
 ⟨h.hlen, h.hcap, h.hmax, fun k hk => let ⟨b, off, e, hc⟩ := h.cell k hk; ⟨b, off, e, fun k hk => ⟨hx.cellSome (hc k hk).1, hx.cellSome (hc k hk).2.1, hx.cellSome (hc k hk).2.2⟩⟩⟩
theorem Fixs.at {w : World} {a : Option Addr} {n cap : Nat} {l : List (Int × Int × Int)} (h : Fixs w a n cap l) {k : Nat} (hk : k < n) :
 ∃ b off x y z, a = some ⟨b, off, none⟩ ∧ l[k]?.getD (0, 0, 0) = (x, y, z) ∧ w.cell? ⟨b, off + k * 3, none⟩ = some (.int .i64 x) ∧ w.cell? ⟨b, off + k * 3 + 1, none⟩ = some (.int .i64 y) ∧ w.cell? ⟨b, off + k * 3 + 2, none⟩ = some (.int .i64 z) :=
 let ⟨b, off, e, hc⟩ := h.cell k hk; ⟨b, off, _, _, _, e, rfl, (hc k hk).1, (hc k hk).2.1, (hc k hk).2.2⟩
def fixC (p : Int × Int × Int) : List Value := [.int .i64 p.1, .int .i64 p.2.1, .int .i64 p.2.2]
def fixCells (l : List (Int × Int × Int)) : Array Value := (l.flatMap fixC).toArray
theorem fixC_at : ∀ (l : List (Int × Int × Int)) (k : Nat), k < l.length → (l.flatMap fixC)[k * 3]? = some (.int .i64 (l[k]?.getD (0, 0, 0)).1) ∧ (l.flatMap fixC)[k * 3 + 1]? = some (.int .i64 (l[k]?.getD (0, 0, 0)).2.1) ∧ (l.flatMap fixC)[k * 3 + 2]? = some (.int .i64 (l[k]?.getD (0, 0, 0)).2.2)
 | [], k, h => absurd h (by simp)
 | p :: l, 0, _ => by simp [fixC]
 | p :: l, k + 1, h => by
   have := fixC_at l k (by simpa using h)
   rw [show (k + 1) * 3 = k * 3 + 1 + 1 + 1 by omega]
   simpa [fixC] using this
theorem fixC_set : ∀ (l : List (Int × Int × Int)) (k : Nat) (x y z : Int), k < l.length → (((l.flatMap fixC).set (k * 3) (.int .i64 x)).set (k * 3 + 1) (.int .i64 y)).set (k * 3 + 2) (.int .i64 z) = (l.set k (x, y, z)).flatMap fixC
 | [], k, _, _, _, h => absurd h (by simp)
 | p :: l, 0, _, _, _, _ => by simp [fixC]
 | p :: l, k + 1, x, y, z, h => by
   have := fixC_set l k x y z (by simpa using h)
   rw [show (k + 1) * 3 = k * 3 + 1 + 1 + 1 by omega]
   simpa [fixC] using this
def FRow (w : World) (b : Nat) (t : TypeId) (l : List (Int × Int × Int)) : Prop := w.heap[b]? = some (.cells (fixCells l) t (0, 0))
theorem FRow.cell {w : World} {b : Nat} {t : TypeId} {l : List (Int × Int × Int)} (h : FRow w b t l) {k : Nat} (hk : k < l.length) : w.cell? ⟨b, k * 3, none⟩ = some (.int .i64 (l[k]?.getD (0, 0, 0)).1) ∧ w.cell? ⟨b, k * 3 + 1, none⟩ = some (.int .i64 (l[k]?.getD (0, 0, 0)).2.1) ∧ w.cell? ⟨b, k * 3 + 2, none⟩ = some (.int .i64 (l[k]?.getD (0, 0, 0)).2.2) := by
 rw [cell_of_row w b _ _ t _ h, cell_of_row w b _ _ t _ h, cell_of_row w b _ _ t _ h]
 simpa [fixCells] using fixC_at l k hk
theorem FRow.free {w : World} {b : Nat} {t : TypeId} {l : List (Int × Int × Int)} (h : FRow w b t l) (k : Nat) : w.frozen? ⟨b, k, none⟩ = false := frozen_of_row w b k _ t h
theorem FRow.lt {w : World} {b : Nat} {t : TypeId} {l : List (Int × Int × Int)} (h : FRow w b t l) : b < w.heap.size := lt_of_block h
theorem FRow.set {w : World} {b : Nat} {t : TypeId} {l : List (Int × Int × Int)} (h : FRow w b t l) {k : Nat} (hk : k < l.length) (x y z : Int) : FRow (((w.setCell ⟨b, k * 3, none⟩ (.int .i64 x)).setCell ⟨b, k * 3 + 1, none⟩ (.int .i64 y)).setCell ⟨b, k * 3 + 2, none⟩ (.int .i64 z)) b t (l.set k (x, y, z)) := by
 have h1 := heap_setCell_same w b (k * 3) _ t (.int .i64 x) h
 have h2 := heap_setCell_same _ b (k * 3 + 1) _ t (.int .i64 y) h1
 have h3 := heap_setCell_same _ b (k * 3 + 2) _ t (.int .i64 z) h2
 unfold FRow
 rw [h3]
 have := fixC_set l k x y z hk
 simp only [fixCells, List.setIfInBounds_toArray, this]
theorem FRow.ext {w w' : World} {b : Nat} {t : TypeId} {l : List (Int × Int × Int)} (h : FRow w b t l) (hx : Ext w w') : FRow w' b t l := (hx.block b h.lt).trans h
def bit (s : Int) (k : Nat) : Bool := decide (s / 2 ^ k % 2 = 1)
def hasP (s k : Int) : Bool := decide (0 ≤ s) && (inB k 0 4 && bit s k.toNat)
def cntC (n : Int) : Int := if inB n 0 5 then 2 ^ n.toNat else 0
theorem and_i64 (a b : Nat) (ha : a < 9223372036854775808) (hb : b < 9223372036854775808) : bits .and .i64 (a : Int) (b : Int) = ((a &&& b : Nat) : Int) := by
 have hx : a &&& b < 2 ^ 63 := Nat.and_lt_two_pow _ (by omega)
 have h1 : (BitVec.ofInt 64 (a : Int)).toNat = a := by rw [BitVec.ofInt_natCast, BitVec.toNat_ofNat]; exact Nat.mod_eq_of_lt (by omega)
 have h2 : (BitVec.ofInt 64 (b : Int)).toNat = b := by rw [BitVec.ofInt_natCast, BitVec.toNat_ofNat]; exact Nat.mod_eq_of_lt (by omega)
 show IntKind.i64.wrap ((BitVec.ofInt 64 (a : Int) &&& BitVec.ofInt 64 (b : Int)).toNat : Int) = _
 rw [BitVec.toNat_and, h1, h2, IntKind.wrap_i64]
 omega
theorem and_one (x : Int) (h : 0 ≤ x) (h' : x ≤ 9223372036854775807) : bits BinOp.and IntKind.i64 x 1 = x % 2 := by
 obtain ⟨n, rfl⟩ : ∃ n : Nat, x = n := ⟨x.toNat, by omega⟩
 have := and_i64 n 1 (by omega) (by omega)
 rw [Nat.and_one_is_mod] at this
 have h2 : ((n % 2 : Nat) : Int) = (n : Int) % 2 := by omega
 exact this.trans h2
theorem pow_pos (k : Nat) : (1 : Int) ≤ 2 ^ k := by
 have : (0 : Int) < 2 ^ k := Int.pow_pos (by decide)
 omega
theorem pow_le5 (k : Nat) (h : k ≤ 5) : (2 : Int) ^ k ≤ 32 := by
 have : k = 0 ∨ k = 1 ∨ k = 2 ∨ k = 3 ∨ k = 4 ∨ k = 5 := by omega
 rcases this with rfl | rfl | rfl | rfl | rfl | rfl <;> decide
theorem div_pow (s : Int) (k : Nat) (h : 0 ≤ s) : 0 ≤ s / 2 ^ k ∧ s / 2 ^ k ≤ s := by
 have := pow_pos k
 exact ⟨Int.ediv_nonneg h (by omega), Int.ediv_le_self _ h⟩
theorem bit_test (s : Int) (k : Nat) (h : 0 ≤ s) (h' : s ≤ 9223372036854775807) : (bits BinOp.and IntKind.i64 (s / 2 ^ k) 1 == 1) = bit s k := by
 have := div_pow s k h
 rw [and_one _ this.1 (by omega)]
 unfold bit
 rw [Bool.eq_iff_iff]; simp
theorem wrap_pow (k : Nat) (h : k ≤ 5) : wrap64 ((2 : Int) ^ k) = 2 ^ k := by
 have := pow_pos k
 have := pow_le5 k h
 unfold wrap64; omega
set_option maxHeartbeats 400000 in
theorem i_HasPlayer (s k : Int) (w : World) (h' : s ≤ 9223372036854775807) :
 Calls Try.prog 173 #[.int .i64 s, .int .i64 k] w fun e w' => e = .returned (.bool (hasP s k)) ∧ w = w' := by
 by_cases hs : 0 ≤ s
 ·cases hk : inB k 0 4
  ·go_enter Try.func173, Try.ntmps173
   go_wp2_with (first | (go_at_call 69; refine (i_within _ _ _ _).mono ?_; rintro e w' ⟨rfl, rfl⟩))
   go_ret
   exact ⟨ret_bool (by unfold hasP; rw [hk]; simp), rfl⟩
  ·obtain ⟨n, rfl⟩ : ∃ n : Nat, k = n := ⟨k.toNat, by unfold inB at hk; simp at hk; omega⟩
   have hn : n ≤ 4 := by unfold inB at hk; simp at hk; omega
   have hb := bit_test s n hs h'
   go_enter Try.func173, Try.ntmps173
   go_wp2_with (first | (go_at_call 69; refine (i_within _ _ _ _).mono ?_; rintro e w' ⟨rfl, rfl⟩))
   go_ret
   exact ⟨ret_bool (by unfold hasP; rw [hk]; simp [hs]), rfl⟩
 ·go_enter Try.func173, Try.ntmps173
  go_wp2_with fail
  go_ret
  exact ⟨ret_bool (by unfold hasP; rw [decide_eq_false (by omega)]; rfl), rfl⟩
set_option maxHeartbeats 400000 in
theorem s_CountCoalitions (n : Int) (w : World) : Calls Try.prog 39 #[.int .i64 n] w fun e w' => e = .returned (.int .i64 (cntC n)) ∧ w = w' := by
 cases hk : inB n 0 5
 ·go_enter Try.func39, Try.ntmps39
  go_wp2_with (first | (go_at_call 70; refine (s_l1In _ _ _ _).mono ?_; rintro e w' ⟨rfl, rfl⟩))
  go_ret
  exact ⟨ret_int (by unfold cntC; rw [hk]; rfl), rfl⟩
 ·obtain ⟨m, rfl⟩ : ∃ k : Nat, n = k := ⟨n.toNat, by unfold inB at hk; simp at hk; omega⟩
  have hn : m ≤ 5 := by unfold inB at hk; simp at hk; omega
  go_enter Try.func39, Try.ntmps39
  go_wp2_with (first | (go_at_call 70; refine (s_l1In _ _ _ _).mono ?_; rintro e w' ⟨rfl, rfl⟩))
  go_loop [3, 4] (fun s i => ∃ (k : Nat) (z : Int), k ≤ m ∧ i = .int .i64 k ∧ s = .int .i64 z ∧ 0 ≤ z ∧ z ≤ 32 ∧ Hid (z = 2 ^ k)) (fun _ i => m - (intOf i).toNat)
  case atStart => exact ⟨0, 1, Nat.zero_le _, rfl, rfl, by omega, by omega, Lib.hid (by simp)⟩
  case round =>
   obtain ⟨k, z, hkm, rfl, rfl, hz0, hz1, HZ⟩ := hrel
   by_cases hlt : k < m
   ·go_wp2
    go_round
    case rel =>
     refine ⟨k + 1, z * 2, by omega, by go_num, rfl, by omega, ?_, Lib.hid (by rw [HZ.out, Int.pow_succ])⟩
     have := pow_le5 (k + 1) (by omega)
     rw [Int.pow_succ, ← HZ.out] at this
     exact this
    case measure => simp [intOf]; omega
   ·go_wp2
    go_ret
    have hkm' : k = m := by omega
    subst hkm'
    exact ⟨ret_int (by unfold cntC; rw [hk]; simpa using HZ.out), rfl⟩
theorem cntC_bit (k : Int) (h : inB k 0 4 = true) : cntC k = 2 ^ k.toNat := by
 unfold cntC
 rw [if_pos]
 unfold inB at *
 simp at *; omega
set_option maxHeartbeats 400000 in
theorem s_l2Bit (n : Int) (w : World) : Calls Try.prog 65 #[.int .i64 n] w fun e w' => e = .returned (.int .i64 (cntC n)) ∧ w = w' := by
 go_enter Try.func65, Try.ntmps65
 go_wp2_with (first | (go_at_call 39; refine (s_CountCoalitions _ _).mono ?_; rintro e w' ⟨rfl, rfl⟩))
 go_ret
 exact ⟨rfl, rfl⟩
set_option maxHeartbeats 400000 in
theorem s_HasPlayer (s k : Int) (w : World) (h' : s ≤ 9223372036854775807) :
 Calls Try.prog 64 #[.int .i64 s, .int .i64 k] w fun e w' => e = .returned (.bool (hasP s k)) ∧ w = w' := by
 cases hk : inB k 0 4
 ·go_enter Try.func64, Try.ntmps64
  go_wp2_with (first | (go_at_call 70; refine (s_l1In _ _ _ _).mono ?_; rintro e w' ⟨rfl, rfl⟩))
  go_ret
  exact ⟨ret_bool (by unfold hasP; rw [hk]; simp), rfl⟩
 ·by_cases hs : 0 ≤ s
  ·obtain ⟨n, rfl⟩ : ∃ n : Nat, k = n := ⟨k.toNat, by unfold inB at hk; simp at hk; omega⟩
   have hn : n ≤ 4 := by unfold inB at hk; simp at hk; omega
   have hc : cntC (n : Int) = 2 ^ n := by rw [cntC_bit _ hk]; simp
   have hp := pow_pos n
   have hd := div_pow s n hs
   have hd1 := hd.1
   have hne : ((2 : Int) ^ n == 0) = false := by simp; omega
   have HB := Lib.hid (show (s / 2 ^ n % 2 == 1) = bit s n by unfold bit; rw [Bool.eq_iff_iff]; simp)
   have HD := Lib.hid hd
   clear hd
   go_enter Try.func64, Try.ntmps64
   go_wp2_with (first | (go_at_call 70; refine (s_l1In _ _ _ _).mono ?_; rintro e w' ⟨rfl, rfl⟩) | (go_at_call 65; refine (s_l2Bit _ _).mono ?_; rintro e w' ⟨rfl, rfl⟩))
   go_ret
   exact ⟨ret_bool (by rw [HB.out]; unfold hasP; rw [hk]; simp [hs]), rfl⟩
  ·go_enter Try.func64, Try.ntmps64
   go_wp2_with (first | (go_at_call 70; refine (s_l1In _ _ _ _).mono ?_; rintro e w' ⟨rfl, rfl⟩))
   go_ret
   exact ⟨ret_bool (by unfold hasP; rw [decide_eq_false (by omega)]; rfl), rfl⟩
theorem hasP_bit (s : Int) (k : Nat) (h : 0 ≤ s) (hk : k ≤ 4) : hasP s (k : Int) = bit s k := by
 unfold hasP inB
 rw [decide_eq_true h, decide_eq_true (by omega), decide_eq_true (by omega)]
 simp
def cN (n : Nat) : Nat := 2 ^ n
theorem cN_pow (n : Nat) : (cN n : Int) = 2 ^ n := by unfold cN; simp
theorem cN_le (n : Nat) (h : n ≤ 5) : 1 ≤ cN n ∧ cN n ≤ 32 := by
 have h1 := pow_pos n
 have h2 := pow_le5 n h
 rw [← cN_pow] at h1 h2
 omega
theorem cntC_nat (n : Nat) (h : n ≤ 5) : cntC (n : Int) = (cN n : Int) := by
 unfold cntC
 rw [if_pos (by unfold inB; simp; omega), cN_pow]; simp
end Go.Proofs.Ytgohdmnbnhehnaa
