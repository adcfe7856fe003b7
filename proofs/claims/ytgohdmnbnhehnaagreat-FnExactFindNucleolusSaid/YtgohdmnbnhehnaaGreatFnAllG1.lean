import Derived.Test.YtgohdmnbnhehnaaGreatFnAllG0
import Derived.Deep.Slices
import Derived.ProofKit
import Derived.OpenShut
import Derived.ShutString
import Derived.ChangeOld
import Derived.Lib.SmallJoins
import Derived.Deep.RegionLaw
namespace Go.Proofs.YtgohdmnbnhehnaaGreat
set_option linter.unusedVariables false
open Go.RowKit
structure IntSS (w : World) (a : Option Addr) (n cap : Nat) (L : List (List Int)) : Prop where
 hlen : L.length = n
 hcap : n ≤ cap
 hmax : cap ≤ 9223372036854775807
 cell : ∀ k, k < n → ∃ b off, a = some ⟨b, off, none⟩ ∧ ∀ k, k < n → ∃ a' n' c', w.cell? ⟨b, off + k, none⟩ = some (.slice a' n' c') ∧ Ints w a' n' c' (L[k]?.getD [])
theorem IntSS.ext {w w' : World} {a : Option Addr} {n cap : Nat} {L : List (List Int)} (h : IntSS w a n cap L) (hx : Ext w w') : IntSS w' a n cap L :=
 ⟨h.hlen, h.hcap, h.hmax, fun k hk => let ⟨b, off, e, hc⟩ := h.cell k hk; ⟨b, off, e, fun k hk => let ⟨a', n', c', h1, h2⟩ := hc k hk; ⟨a', n', c', hx.cellSome h1, h2.ext hx⟩⟩⟩
theorem IntSS.at {w : World} {a : Option Addr} {n cap : Nat} {L : List (List Int)} (h : IntSS w a n cap L) {k : Nat} (hk : k < n) :
 ∃ b off a' n' c', a = some ⟨b, off, none⟩ ∧ w.cell? ⟨b, off + k, none⟩ = some (.slice a' n' c') ∧ Ints w a' n' c' (L[k]?.getD []) :=
 let ⟨b, off, e, hc⟩ := h.cell k hk; let ⟨a', n', c', h1, h2⟩ := hc k hk; ⟨b, off, a', n', c', e, h1, h2⟩
theorem IntSS.alloc {w : World} {a : Option Addr} {n cap : Nat} {L : List (List Int)} (h : IntSS w a n cap L) (o : Obj) : IntSS (w.alloc o) a n cap L := h.ext (Ext.alloc w o)
theorem IntSS.drewN {w : World} {a : Option Addr} {n cap : Nat} {L : List (List Int)} (h : IntSS w a n cap L) (m : Nat) : IntSS (w.drewN m) a n cap L := h.ext (Drew.ext ⟨m, rfl⟩)
theorem takeL_snoc {α : Type} {L : List (List α)} {k : Nat} (h : k < L.length) : L.take (k+1) = L.take k ++ [L[k]?.getD []] := by
 rw [List.take_succ_eq_append_getElem h]; simp [h]
theorem Tryz.infoInts : (Tryz.prog.info? 22).map (fun i => (i.zero, i.size, i.bytes)) = some (some (.slice none 0 0), 1, 24) := by kernel_rfl
def Filled (w : World) (B : Nat) (vs : List Value) (L : List (List Int)) (k : Nat) : Prop :=
 ∀ j, j < k → ∃ b m, vs[j]? = some (.slice (some ⟨b, 0, none⟩) m m) ∧ B < b ∧ (L[j]?.getD []).length = m ∧ Row w b 3 (L[j]?.getD [])
theorem Filled.ext {w w' : World} {B : Nat} {vs : List Value} {L : List (List Int)} {k : Nat} (h : Filled w B vs L k) (hx : Ext w w') : Filled w' B vs L k :=
 fun j hj => let ⟨b, m, h1, h2, h3, h4⟩ := h j hj; ⟨b, m, h1, h2, h3, h4.ext hx⟩
theorem Filled.snoc {w : World} {B : Nat} {vs : List Value} {L : List (List Int)} {k : Nat} (h : Filled w B vs L k) (hv : k < vs.length) {b m : Nat} (hb : B < b) (hm : (L[k]?.getD []).length = m) (hr : Row w b 3 (L[k]?.getD [])) :
 Filled (w.setCell ⟨B, k, none⟩ (.slice (some ⟨b, 0, none⟩) m m)) B (vs.set k (.slice (some ⟨b, 0, none⟩) m m)) L (k + 1) := by
 intro j hj
 by_cases hjk : j = k
 ·subst hjk
  exact ⟨b, m, by simp [hv], hb, hm, hr.other (by simp; omega) _⟩
 ·obtain ⟨b', m', h1, h2, h3, h4⟩ := h j (by omega)
  exact ⟨b', m', by rw [List.getElem?_set_ne (by omega)]; exact h1, h2, h3, h4.other (by simp; omega) _⟩
open Go.ChangeShapes Go.WideShapes Go.ChangeAt Go.RowKit Go.Joins Go.Deep
section
variable {H : Type} {enc : TypeId × Value → H} {P : Program} {w : World} {base : Nat} {spare : Nat → Bool} {held : Bool}
theorem open_Ints {t e : TypeId} {fuel : Nat} {v : Value} {x : DataW H × List MemPlace} (ht : P.underlying t = some (.slice e)) (he : P.underlying e = some (.int .i64)) (hc : P.cellsOf e = 1)
 (h : DataW.trod enc P w base spare held fuel t [v] = some x) : ∃ a n cap l, v = .slice a n cap ∧ Ints w a n cap l := by
 rcases open_ints ht he hc h with ⟨hcs, _⟩ | ⟨a, len, cap, zs, hcs, _, hl, hm, hz, _, hcell, _⟩
 ·simp at hcs
  exact ⟨none, 0, 0, [], hcs, rfl, Nat.le_refl _, by omega, fun k hk => absurd hk (by omega)⟩
 ·simp at hcs
  have hlen : len ≤ zs.length := by rw [hz]; split <;> omega
  refine ⟨some a, len, cap, zs.take len, hcs, by rw [List.length_take]; omega, hl, by simpa [maxLen] using hm, fun k hk => ?_⟩
  obtain ⟨b, off, spot⟩ := a
  have h0 := hcell 0 (by omega)
  have hspot : spot = none := by simpa [Addr.add] using World.cell?_spot h0
  subst hspot
  refine ⟨b, off, rfl, fun k hk => ?_⟩
  have h1 := hcell k (by omega)
  have ha : (⟨b, off, none⟩ : Addr).add k = ⟨b, off + k, none⟩ := by unfold Addr.add; split <;> simp_all
  rw [ha] at h1
  rw [h1]
  simp [hk]
end
end Go.Proofs.YtgohdmnbnhehnaaGreat
namespace Go.Proofs.YtgohdmnbnhehnaaGreat
set_option linter.unusedVariables false
open Go.RowKit
def bit (s : Int) (k : Nat) : Bool := decide (s / 2 ^ k % 2 = 1)
def hasP (s k : Int) : Bool := decide (0 ≤ s) && (inB k 0 4 && bit s k.toNat)
def cntC (n : Int) : Int := if inB n 0 5 then 2 ^ n.toNat else 0
theorem and_i64 (a b : Nat) (ha : a < 9223372036854775808) (hb : b < 9223372036854775808) : bits .and .i64 (a : Int) (b : Int) = ((a &&& b : Nat) : Int) := by
 have hx : a &&& b < 2 ^ 63 := Nat.and_lt_two_pow _ (by omega)
 have h1 : (BitVec.ofInt 64 (a : Int)).toNat = a := by rw [BitVec.ofInt_natCast, BitVec.toNat_ofNat]; exact Nat.mod_eq_of_lt (by omega)
 have h2 : (BitVec.ofInt 64 (b : Int)).toNat = b := by rw [BitVec.ofInt_natCast, BitVec.toNat_ofNat]; exact Nat.mod_eq_of_lt (by omega)
 show IntKind.i64.wrap ((BitVec.ofInt 64 (a : Int) &&& BitVec.ofInt 64 (b : Int)).toNat : Int) = _
 rw [BitVec.toNat_and, h1, h2, IntKind.wrap_i64]
 omega
theorem or_i64 (a b : Nat) (ha : a < 9223372036854775808) (hb : b < 9223372036854775808) : bits .or .i64 (a : Int) (b : Int) = ((a ||| b : Nat) : Int) := by
 have hx : a ||| b < 2 ^ 63 := Nat.or_lt_two_pow (by omega) (by omega)
 have h1 : (BitVec.ofInt 64 (a : Int)).toNat = a := by rw [BitVec.ofInt_natCast, BitVec.toNat_ofNat]; exact Nat.mod_eq_of_lt (by omega)
 have h2 : (BitVec.ofInt 64 (b : Int)).toNat = b := by rw [BitVec.ofInt_natCast, BitVec.toNat_ofNat]; exact Nat.mod_eq_of_lt (by omega)
 show IntKind.i64.wrap ((BitVec.ofInt 64 (a : Int) ||| BitVec.ofInt 64 (b : Int)).toNat : Int) = _
 rw [BitVec.toNat_or, h1, h2, IntKind.wrap_i64]
 omega
theorem and_one (x : Int) (h : 0 ≤ x) (h' : x ≤ 9223372036854775807) : bits BinOp.and IntKind.i64 x 1 = x % 2 := by
 obtain ⟨n, rfl⟩ : ∃ n : Nat, x = n := ⟨x.toNat, by omega⟩
 have := and_i64 n 1 (by omega) (by omega)
 rw [Nat.and_one_is_mod] at this
 have h2 : ((n % 2 : Nat) : Int) = (n : Int) % 2 := by omega
 exact this.trans h2
theorem pow_pos (k : Nat) : (1 : Int) ≤ 2 ^ k := by
 have : (0 : Int) < 2 ^ k := Int.pow_pos (by decide)
 omega
theorem pow_le5 (k : Nat) (h : k ≤ 5) : (2 : Int) ^ k ≤ 32 := by
 have : k = 0 ∨ k = 1 ∨ k = 2 ∨ k = 3 ∨ k = 4 ∨ k = 5 := by omega
 rcases this with rfl | rfl | rfl | rfl | rfl | rfl <;> decide
theorem div_pow (s : Int) (k : Nat) (h : 0 ≤ s) : 0 ≤ s / 2 ^ k ∧ s / 2 ^ k ≤ s := by
 have := pow_pos k
 exact ⟨Int.ediv_nonneg h (by omega), Int.ediv_le_self _ h⟩
theorem bit_test (s : Int) (k : Nat) (h : 0 ≤ s) (h' : s ≤ 9223372036854775807) : (bits BinOp.and IntKind.i64 (s / 2 ^ k) 1 == 1) = bit s k := by
 have := div_pow s k h
 rw [and_one _ this.1 (by omega)]
 unfold bit
 rw [Bool.eq_iff_iff]; simp
theorem wrap_pow (k : Nat) (h : k ≤ 5) : wrap64 ((2 : Int) ^ k) = 2 ^ k := by
 have := pow_pos k
 have := pow_le5 k h
 unfold wrap64; omega
set_option maxHeartbeats 400000 in
theorem i_HasPlayer (s k : Int) (w : World) (h' : s ≤ 9223372036854775807) :
 Calls Tryz.prog 113 #[.int .i64 s, .int .i64 k] w fun e w' => e = .returned (.bool (hasP s k)) ∧ w = w' := by
 by_cases hs : 0 ≤ s
 ·cases hk : inB k 0 4
  ·go_enter Tryz.func113, Tryz.ntmps113
   go_wp2_with (first | (go_at_call 62; refine (i_within _ _ _ _).mono ?_; rintro e w' ⟨rfl, rfl⟩))
   go_ret
   exact ⟨ret_bool (by unfold hasP; rw [hk]; simp), rfl⟩
  ·obtain ⟨n, rfl⟩ : ∃ n : Nat, k = n := ⟨k.toNat, by unfold inB at hk; simp at hk; omega⟩
   have hn : n ≤ 4 := by unfold inB at hk; simp at hk; omega
   have hb := bit_test s n hs h'
   go_enter Tryz.func113, Tryz.ntmps113
   go_wp2_with (first | (go_at_call 62; refine (i_within _ _ _ _).mono ?_; rintro e w' ⟨rfl, rfl⟩))
   go_ret
   exact ⟨ret_bool (by unfold hasP; rw [hk]; simp [hs]), rfl⟩
 ·go_enter Tryz.func113, Tryz.ntmps113
  go_wp2_with fail
  go_ret
  exact ⟨ret_bool (by unfold hasP; rw [decide_eq_false (by omega)]; rfl), rfl⟩
set_option maxHeartbeats 400000 in
theorem s_CountCoalitions (n : Int) (w : World) : Calls Tryz.prog 58 #[.int .i64 n] w fun e w' => e = .returned (.int .i64 (cntC n)) ∧ w = w' := by
 cases hk : inB n 0 5
 ·go_enter Tryz.func58, Tryz.ntmps58
  go_wp2_with (first | (go_at_call 56; refine (s_l1In _ _ _ _).mono ?_; rintro e w' ⟨rfl, rfl⟩))
  go_ret
  exact ⟨ret_int (by unfold cntC; rw [hk]; rfl), rfl⟩
 ·obtain ⟨m, rfl⟩ : ∃ k : Nat, n = k := ⟨n.toNat, by unfold inB at hk; simp at hk; omega⟩
  have hn : m ≤ 5 := by unfold inB at hk; simp at hk; omega
  go_enter Tryz.func58, Tryz.ntmps58
  go_wp2_with (first | (go_at_call 56; refine (s_l1In _ _ _ _).mono ?_; rintro e w' ⟨rfl, rfl⟩))
  go_loop [3, 4] (fun s i => ∃ (k : Nat) (z : Int), k ≤ m ∧ i = .int .i64 k ∧ s = .int .i64 z ∧ 0 ≤ z ∧ z ≤ 32 ∧ Hid (z = 2 ^ k)) (fun _ i => m - (intOf i).toNat)
  case atStart => exact ⟨0, 1, Nat.zero_le _, rfl, rfl, by omega, by omega, Lib.hid (by simp)⟩
  case round =>
   obtain ⟨k, z, hkm, rfl, rfl, hz0, hz1, HZ⟩ := hrel
   by_cases hlt : k < m
   ·go_wp2
    go_round
    case rel =>
     refine ⟨k + 1, z * 2, by omega, by go_num, rfl, by omega, ?_, Lib.hid (by rw [HZ.out, Int.pow_succ])⟩
     have := pow_le5 (k + 1) (by omega)
     rw [Int.pow_succ, ← HZ.out] at this
     exact this
    case measure => simp [intOf]; omega
   ·go_wp2
    go_ret
    have hkm' : k = m := by omega
    subst hkm'
    exact ⟨ret_int (by unfold cntC; rw [hk]; simpa using HZ.out), rfl⟩
theorem cntC_bit (k : Int) (h : inB k 0 4 = true) : cntC k = 2 ^ k.toNat := by
 unfold cntC
 rw [if_pos]
 unfold inB at *
 simp at *; omega
set_option maxHeartbeats 400000 in
theorem s_l2Bit (n : Int) (w : World) : Calls Tryz.prog 127 #[.int .i64 n] w fun e w' => e = .returned (.int .i64 (cntC n)) ∧ w = w' := by
 go_enter Tryz.func127, Tryz.ntmps127
 go_wp2_with (first | (go_at_call 58; refine (s_CountCoalitions _ _).mono ?_; rintro e w' ⟨rfl, rfl⟩))
 go_ret
 exact ⟨rfl, rfl⟩
set_option maxHeartbeats 400000 in
theorem s_HasPlayer (s k : Int) (w : World) (h' : s ≤ 9223372036854775807) :
 Calls Tryz.prog 60 #[.int .i64 s, .int .i64 k] w fun e w' => e = .returned (.bool (hasP s k)) ∧ w = w' := by
 cases hk : inB k 0 4
 ·go_enter Tryz.func60, Tryz.ntmps60
  go_wp2_with (first | (go_at_call 56; refine (s_l1In _ _ _ _).mono ?_; rintro e w' ⟨rfl, rfl⟩))
  go_ret
  exact ⟨ret_bool (by unfold hasP; rw [hk]; simp), rfl⟩
 ·by_cases hs : 0 ≤ s
  ·obtain ⟨n, rfl⟩ : ∃ n : Nat, k = n := ⟨k.toNat, by unfold inB at hk; simp at hk; omega⟩
   have hn : n ≤ 4 := by unfold inB at hk; simp at hk; omega
   have hc : cntC (n : Int) = 2 ^ n := by rw [cntC_bit _ hk]; simp
   have hp := pow_pos n
   have hd := div_pow s n hs
   have hd1 := hd.1
   have hne : ((2 : Int) ^ n == 0) = false := by simp; omega
   have HB := Lib.hid (show (s / 2 ^ n % 2 == 1) = bit s n by unfold bit; rw [Bool.eq_iff_iff]; simp)
   have HD := Lib.hid hd
   clear hd
   go_enter Tryz.func60, Tryz.ntmps60
   go_wp2_with (first | (go_at_call 56; refine (s_l1In _ _ _ _).mono ?_; rintro e w' ⟨rfl, rfl⟩) | (go_at_call 127; refine (s_l2Bit _ _).mono ?_; rintro e w' ⟨rfl, rfl⟩))
   go_ret
   exact ⟨ret_bool (by rw [HB.out]; unfold hasP; rw [hk]; simp [hs]), rfl⟩
  ·go_enter Tryz.func60, Tryz.ntmps60
   go_wp2_with (first | (go_at_call 56; refine (s_l1In _ _ _ _).mono ?_; rintro e w' ⟨rfl, rfl⟩))
   go_ret
   exact ⟨ret_bool (by unfold hasP; rw [decide_eq_false (by omega)]; rfl), rfl⟩
def bitI (b : Bool) : Int := if b then 1 else 0
set_option maxHeartbeats 400000 in
theorem s_l1Bit (b : Bool) (w : World) : Calls Tryz.prog 59 #[.bool b] w fun e w' => e = .returned (.int .i64 (bitI b)) ∧ w = w' := by
 cases b
 all_goals
  go_enter Tryz.func59, Tryz.ntmps59
  go_wp2
  go_ret
  exact ⟨rfl, rfl⟩
def cN (n : Nat) : Nat := 2 ^ n
theorem cN_pow (n : Nat) : (cN n : Int) = 2 ^ n := by unfold cN; simp
theorem cN_le (n : Nat) (h : n ≤ 5) : 1 ≤ cN n ∧ cN n ≤ 32 := by
 have h1 := pow_pos n
 have h2 := pow_le5 n h
 rw [← cN_pow] at h1 h2
 omega
theorem cntC_nat (n : Nat) (h : n ≤ 5) : cntC (n : Int) = (cN n : Int) := by
 unfold cntC
 rw [if_pos (by unfold inB; simp; omega), cN_pow]; simp
def Near (w : World) (v v' : Value) : Prop := ∀ k, v'.ownBlock = some k → v.ownBlock = some k ∨ w.heap.size ≤ k
theorem Near.refl (w : World) (v : Value) : Near w v v := fun k hk => .inl hk
theorem Near.trans {w w1 : World} {v v1 v2 : Value} (h : Near w v v1) (h1 : Near w1 v1 v2) (hs : w.heap.size ≤ w1.heap.size) : Near w v v2 := fun k hk => by
 rcases h1 k hk with h2 | h2
 ·exact h k h2
 ·exact .inr (by omega)
theorem grown_trans {w w1 w2 : World} {r r1 : Option Nat} (h : w.grownBy w1 r) (h1 : w1.grownBy w2 r1) (hr : ∀ k, r1 = some k → r = some k ∨ w.heap.size ≤ k) : w.grownBy w2 r :=
 ⟨h1.os.trans h.os, h1.tape.trans h.tape, h1.output.trans h.output, Nat.le_trans h.size h1.size, fun k hk hne => by
  refine (h1.block k (Nat.lt_of_lt_of_le hk h.size) fun e => ?_).trans (h.block k hk hne)
  rcases hr k e.symm with h2 | h2
  ·exact hne h2.symm
  ·omega⟩
theorem grown_ext {w w1 : World} (r : Option Nat) (h : Ext w w1) : w.grownBy w1 r := ⟨h.os, h.tape, h.output, h.size, fun k hk _ => h.block k hk⟩
theorem ext_grown {w0 w w' : World} {row : Option Nat} (h : Ext w0 w) (hg : w.grownBy w' row) (hr : ∀ k, row = some k → w0.heap.size ≤ k) : Ext w0 w' := Below.grown h hg h.size hr
section
variable {P : Program} (w : World)
theorem run_append_near (base : Nat) (t ty e : TypeId) (i : TypeInfo) (z : Value) (size bytes : Nat) (ht : P.underlying t = some (.slice e)) (hi : P.info? e = some i) (hz : i.zero = some z)
 (hsize : i.size = size) (hby : i.bytes = bytes) (hzs : z.cells.size = size) (hsz : 0 < size)
 (v : Value) (n : Nat) (xs : List Value) (hown : w.ownsRow base e size v n xs)
 (a : Addr) (m c : Nat) (news : List Value) (hl : news.length = m * size) (hnews : ∀ j u, news[j]? = some u → w.cell? (a.add j) = some u) (h1 : ∀ u ∈ news, u.oneCell' = true)
 (h63 : n + m ≤ maxLen) (hbytes : (n + m) * bytes ≤ 140737488355328) (hbase : base ≤ w.heap.size) :
 ∃ v' w', (Builtin.append_ #[t, t] ty #[v, .slice (some a) m c]).run P w = .ok v' w' ∧ w'.ownsRow base e size v' (n + m) (xs ++ news) ∧ w.grownBy w' v.ownBlock ∧ Near w v v' := by
 obtain ⟨v', w', hrun, h2, h3, _⟩ := run_append_own (P := P) w base t ty e i z size bytes ht hi hz hsize hby hzs hsz v n xs hown a m c news hl hnews h1 h63 hbytes hbase
 refine ⟨v', w', hrun, h2, h3, ?_⟩
 subst hsize
 subst hby
 have hsmall : n + m ≤ 9223372036854775807 := by simp only [maxLen] at h63; omega
 rcases hown.2 with ⟨rfl, rfl⟩ | ⟨g, cap, cur, rfl, hbg, hg, hnc, hcm, hcs, htake⟩
 ·by_cases hm : m = 0
  ·subst hm
   intro k hk
   rcases h2.2 with ⟨rfl, _⟩ | ⟨g', cap', cur', rfl, _, hg', _⟩
   ·simp [Value.ownBlock] at hk
   ·have hn : news = [] := List.eq_nil_of_length_eq_zero (by simpa using hl)
    subst hn
    have : (Builtin.append_ #[t, t] ty #[Value.slice none 0 0, .slice (some a) 0 c]).run P w = .ok (.slice none 0 0) w := by
     simp [Builtin.append_, run_underlying ht, sizeOf, typeInfo, hi, Builtin.lenOf, Builtin.firstCells, loadCells, loadCellsFrom]
    rw [this] at hrun
    simp at hrun
  ·have hr := run_append_nil (P := P) w t ty e i z ht hi hz a m c news hl hnews (by omega) (by omega) (by have hb := hbytes; simp only [Nat.zero_add] at hb; omega)
   rw [hr] at hrun
   simp only [Result.ok.injEq] at hrun
   obtain ⟨rfl, rfl⟩ := hrun
   intro k hk
   exact .inr (Nat.le_of_eq (Option.some.inj (show some w.heap.size = some k from hk)))
 ·by_cases hroom : n + m ≤ cap
  ·have hfit : n * i.size + news.length ≤ cur.size := by rw [hl, hcs, ← Nat.add_mul]; exact Nat.mul_le_mul_right _ hroom
   have hr := run_append_room (P := P) w t ty e i ht hi g n cap cur hg a m c news hl hnews h1 hroom hfit
   rw [hr] at hrun
   simp only [Result.ok.injEq] at hrun
   obtain ⟨rfl, rfl⟩ := hrun
   intro k hk
   exact .inl hk
  ·have holds : ∀ j u, xs[j]? = some u → w.cell? ((⟨g, 0, none⟩ : Addr).add j) = some u := hown.cells (g := g) rfl
   have hr := run_append_grow (P := P) w t ty e i z ht hi hz ⟨g, 0, none⟩ n cap xs hown.1 holds a m c news hl hnews (by omega) (by omega) (growslice_fits (by omega) hbytes)
   rw [hr] at hrun
   simp only [Result.ok.injEq] at hrun
   obtain ⟨rfl, rfl⟩ := hrun
   intro k hk
   exact .inr (Nat.le_of_eq (Option.some.inj (show some w.heap.size = some k from hk)))
theorem wp_append_near {o : Oper} {a : Act} {K : Act → World → Prop} {Q : Exit → Act → World → Prop} (s x : Operand) (t : TypeId)
 (ho : o.op = .call { callee := .builtin .append, args := #[s, x], argTypes := #[t, t] })
 (base : Nat) (e : TypeId) (i : TypeInfo) (z : Value) (size bytes : Nat) (ht : P.underlying t = some (.slice e)) (hi : P.info? e = some i) (hz : i.zero = some z)
 (hsize : i.size = size) (hby : i.bytes = bytes) (hzs : z.cells.size = size) (hsz : 0 < size)
 (v : Value) (n : Nat) (xs : List Value) (hs : a.eval s = v) (hown : w.ownsRow base e size v n xs)
 (ad : Addr) (m c : Nat) (news : List Value) (hx : a.eval x = .slice (some ad) m c) (hl : news.length = m * size) (hnews : ∀ j u, news[j]? = some u → w.cell? (ad.add j) = some u) (h1 : ∀ u ∈ news, u.oneCell' = true)
 (h63 : n + m ≤ maxLen) (hbytes : (n + m) * bytes ≤ 140737488355328) (hbase : base ≤ w.heap.size)
 (h : ∀ v' w', w'.ownsRow base e size v' (n + m) (xs ++ news) → w.grownBy w' v.ownBlock → Near w v v' → K (a.put o.dst v') w') : o.wp P a w K Q := by
 obtain ⟨v', w', hr, h2, h3, h4⟩ := run_append_near (P := P) w base t o.type e i z size bytes ht hi hz hsize hby hzs hsz v n xs hown ad m c news hl hnews h1 h63 hbytes hbase
 unfold Oper.wp execOp
 simp only [ho, resolve, invoke, builtin, Sem.run_bind, Sem.run_pure, Result.andThen_ok, List.map_toArray, List.map_cons, List.map_nil, hs, hx, hr]
 exact h v' w' h2 h3 h4
theorem wp_append_nothing {o : Oper} {a : Act} {K : Act → World → Prop} {Q : Exit → Act → World → Prop} (s x : Operand) (t : TypeId)
 (ho : o.op = .call { callee := .builtin .append, args := #[s, x], argTypes := #[t, t] })
 (base : Nat) (e : TypeId) (i : TypeInfo) (size : Nat) (ht : P.underlying t = some (.slice e)) (hi : P.info? e = some i)
 (v : Value) (n : Nat) (xs : List Value) (hs : a.eval s = v) (hown : w.ownsRow base e size v n xs) (c : Nat) (hx : a.eval x = .slice none 0 c)
 (h : K (a.put o.dst v) w) : o.wp P a w K Q := by
 have hrun : (Builtin.append_ #[t, t] o.type #[v, .slice none 0 c]).run P w = .ok v w := by
  rcases hown.2 with ⟨rfl, rfl⟩ | ⟨g, cap, cur, rfl, _, _, hnc, _⟩
  ·simp [Builtin.append_, run_underlying ht, sizeOf, typeInfo, hi, Builtin.lenOf, Builtin.firstCells]
  ·simp [Builtin.append_, run_underlying ht, sizeOf, typeInfo, hi, Builtin.lenOf, Builtin.firstCells, hnc, storeCells]
 unfold Oper.wp execOp
 simp only [ho, resolve, invoke, builtin, Sem.run_bind, Sem.run_pure, Result.andThen_ok, List.map_toArray, List.map_cons, List.map_nil, hs, hx, hrun]
 exact h
theorem step_of_wp {ops : Array Oper} {o : Oper} {a : Act} {K : Act → World → Prop} {Q : Exit → Act → World → Prop} {E : Prop} (hgd : o.guard = none) (h : o.wp P a w K Q) :
 if Region.wanted o (yielded ops a.tmps) = true then Oper.wp P o a w K Q else E := by
 have hw : Region.wanted o (yielded ops a.tmps) = true := by simp [Region.wanted, hgd]
 rw [if_pos hw]
 exact h
end
end Go.Proofs.YtgohdmnbnhehnaaGreat
