/- The draws' cursor: some numbers come out of it, in their bounds. -/
import Derived.Test.YtgohdmnbnhehnaaOwn
import Derived.Test.YtgohdmnbnhehnaaBits
namespace Go.Proofs.Ytgohdmnbnhehnaa
set_option linter.unusedVariables false
set_option linter.unusedSimpArgs false
set_option maxRecDepth 100000
open Go.RowKit

/-- A slice of bytes that can be read. -/
structure Bytes (w : World) (a : Option Addr) (n cap : Nat) : Prop where
  hcap : n ≤ cap
  hmax : cap ≤ 9223372036854775807
  cell : ∀ k, k < n → ∃ b off, a = some ⟨b, off, none⟩ ∧ ∀ k, k < n → ∃ x : Int, w.cell? ⟨b, off + k, none⟩ = some (.int .u8 x) ∧ 0 ≤ x ∧ x ≤ 255
theorem Bytes.ext {w w' : World} {a : Option Addr} {n cap : Nat} (h : Bytes w a n cap) (hx : Ext w w') : Bytes w' a n cap :=
  ⟨h.hcap, h.hmax, fun k hk => let ⟨b, off, e, hc⟩ := h.cell k hk; ⟨b, off, e, fun k hk => let ⟨x, h1, h2⟩ := hc k hk; ⟨x, hx.cellSome h1, h2⟩⟩⟩
theorem Bytes.at {w : World} {a : Option Addr} {n cap : Nat} (h : Bytes w a n cap) {k : Nat} (hk : k < n) : ∃ b off x, a = some ⟨b, off, none⟩ ∧ w.cell? ⟨b, off + k, none⟩ = some (.int .u8 x) ∧ 0 ≤ x ∧ x ≤ 255 :=
  let ⟨b, off, e, hc⟩ := h.cell k hk; let ⟨x, h1, h2, h3⟩ := hc k hk; ⟨b, off, x, e, h1, h2, h3⟩
/-- Block cb holds a cursor. -/
def Cur (w : World) (cb : Nat) : Prop := ∃ (ba : Option Addr) (bn bc : Nat) (i h : Int), w.heap[cb]? = some (.cells #[.slice ba bn bc, .int .i64 i, .int .i64 h] 118 (0, 0)) ∧ Bytes w ba bn bc ∧ 0 ≤ i ∧ i ≤ bn ∧ ∀ b off, ba = some ⟨b, off, none⟩ → 0 < bn → b ≠ cb
theorem Cur.lt {w : World} {cb : Nat} (h : Cur w cb) : cb < w.heap.size := by obtain ⟨_, _, _, _, _, h, _⟩ := h; exact lt_of_block h
theorem Cur.ext {w w' : World} {cb : Nat} (h : Cur w cb) (hx : Ext w w') : Cur w' cb := by
  have hl := h.lt
  obtain ⟨ba, bn, bc, i, v, h1, h2, h3⟩ := h
  exact ⟨ba, bn, bc, i, v, (hx.block _ hl).trans h1, h2.ext hx, h3⟩
theorem cell_same {w w' : World} {b : Nat} (h : w'.heap[b]? = w.heap[b]?) (o : Nat) : w'.cell? ⟨b, o, none⟩ = w.cell? ⟨b, o, none⟩ := by
  simp only [World.cell?, h]
/-- What a byte leaves. -/
theorem cur_after {w : World} {cb bn bc : Nat} {ba : Option Addr} {i i' h v : Int} (hb : w.heap[cb]? = some (.cells #[.slice ba bn bc, .int .i64 i, .int .i64 h] 118 (0, 0))) (hby : Bytes w ba bn bc)
    (h0 : 0 ≤ i') (h1 : i' ≤ bn) (hne : ∀ b off, ba = some ⟨b, off, none⟩ → 0 < bn → b ≠ cb) {W0 W : World} (hW0 : W0.heap[cb]? = some (.cells #[.slice ba bn bc, .int .i64 i', .int .i64 v] 118 (0, 0))) (hg : w.grownBy W0 (some cb)) (hW : Ext W0 W) : Cur W cb ∧ w.grownBy W (some cb) := by
  have hby0 : Bytes W0 ba bn bc := by
    refine ⟨hby.hcap, hby.hmax, fun j hj => ?_⟩
    obtain ⟨b, off, e, hc⟩ := hby.cell j hj
    refine ⟨b, off, e, fun j hj => ?_⟩
    obtain ⟨y, hy, hy1⟩ := hc j hj
    refine ⟨y, (cell_same (hg.block b (World.block_lt_of_cell? _ _ hy) (fun e2 => hne b off e (by omega) (Option.some.inj e2))) _).trans hy, hy1⟩
  exact ⟨⟨ba, bn, bc, i', v, (hW.block _ (lt_of_block hW0)).trans hW0, hby0.ext hW, h0, h1, hne⟩, grown_trans hg (grown_ext none hW) (fun k hk => by cases hk)⟩
theorem and_mask (x : Int) (m : Nat) (hm : m < 2147483648) : 0 ≤ bits .and .i64 x (m : Int) ∧ bits .and .i64 x (m : Int) ≤ m := by
  have h2 : (BitVec.ofInt 64 (m : Int)).toNat = m := by rw [BitVec.ofInt_natCast, BitVec.toNat_ofNat]; exact Nat.mod_eq_of_lt (by omega)
  have e : bits .and .i64 x (m : Int) = IntKind.i64.wrap ((BitVec.ofInt 64 x &&& BitVec.ofInt 64 (m : Int)).toNat : Int) := rfl
  rw [e, BitVec.toNat_and, h2]
  have := Nat.and_le_right (n := (BitVec.ofInt 64 x).toNat) (m := m)
  rw [IntKind.wrap_i64]
  omega
theorem and_255 (x : Int) : 0 ≤ bits .and .i64 x 255 ∧ bits .and .i64 x 255 ≤ 255 := and_mask x 255 (by omega)

set_option maxHeartbeats 4000000 in
theorem s_l1New {w : World} {a : Option Addr} {n cap : Nat} (h : Bytes w a n cap) (hn : n ≤ 1048576) :
    Calls Try.prog 56 #[.slice a n cap] w fun e w' => (∃ cb, e = .returned (.pointer (some ⟨cb, 0, none⟩)) ∧ w.heap.size ≤ cb ∧ Cur w' cb) ∧ Ext w w' := by
  have hcap := h.hcap
  have hmax := h.hmax
  have HB := Lib.hid h
  have HLT := Lib.hid (show ∀ b off, a = some ⟨b, off, none⟩ → 0 < n → b < w.heap.size by
    intro b off e hp
    obtain ⟨b', off', x, e', hc, _⟩ := h.at hp
    rw [e] at e'
    simp only [Option.some.injEq, Addr.mk.injEq, and_true] at e'
    obtain ⟨rfl, rfl⟩ := e'
    exact World.block_lt_of_cell? _ _ hc)
  clear h
  go_enter Try.func56, Try.ntmps56
  go_wp2_with fail
  go_loop [3, 4] (fun hh ii => ∃ (k : Nat) (hv : Int), k ≤ n ∧ ii = .int .i64 (k : Int) ∧ hh = .int .i64 hv) (fun _ ii => n - (intOf ii).toNat)
  case atStart => exact ⟨0, _, Nat.zero_le _, rfl, rfl⟩
  case round =>
    obtain ⟨k, hv, hk, rfl, rfl⟩ := hrel
    by_cases hlt : k < n ∧ k < 4000
    · obtain ⟨hlt1, hlt2⟩ := hlt
      obtain ⟨b, off, x, rfl, hc, hx0, hx1⟩ := HB.out.at hlt1
      go_wp2_with fail
      go_round
      case rel => exact ⟨k + 1, _, by omega, by go_num, rfl⟩
      case measure => simp [intOf]; omega
    · have hge : ¬ k < n ∨ (k < n ∧ ¬ k < 4000) := by omega
      have HP := Lib.hid (show Cur (w.alloc (.cells #[.slice a n cap, .int .i64 0, .int .i64 hv] 118)) w.heap.size from
        ⟨a, n, cap, 0, hv, heap_alloc_new _ _, HB.out.ext (Ext.alloc _ _), by omega, by omega, fun b off e hp => by have := HLT.out b off e hp; omega⟩)
      clear hlt
      rcases hge with hge | ⟨hge1, hge2⟩
      all_goals
        go_wp2_with fail
        go_ret
        exact ⟨⟨_, rfl, Nat.le_refl _, HP.out⟩, Ext.alloc _ _⟩

set_option maxHeartbeats 8000000 in
theorem s_l1Byte {w : World} {cb : Nat} (h : Cur w cb) :
    Calls Try.prog 126 #[.pointer (some ⟨cb, 0, none⟩)] w fun e w' => (∃ x : Int, e = .returned (.int .i64 x) ∧ 0 ≤ x ∧ x ≤ 255) ∧ Cur w' cb ∧ w.grownBy w' (some cb) := by
  obtain ⟨ba, bn, bc, i, hv, hb, hby, h0, h1, hne⟩ := h
  have hl := lt_of_block hb
  have c0 : w.cell? ⟨cb, 0, none⟩ = some (.slice ba bn bc) := by rw [cell_of_row w cb 0 _ _ _ hb]; rfl
  have c1 : w.cell? ⟨cb, 1, none⟩ = some (.int .i64 i) := by rw [cell_of_row w cb 1 _ _ _ hb]; rfl
  have c2 : w.cell? ⟨cb, 2, none⟩ = some (.int .i64 hv) := by rw [cell_of_row w cb 2 _ _ _ hb]; rfl
  have f1 : w.frozen? ⟨cb, 1, none⟩ = false := frozen_of_row w cb 1 _ _ hb
  have f2 : w.frozen? ⟨cb, 2, none⟩ = false := frozen_of_row w cb 2 _ _ hb
  have HBY := Lib.hid hby
  have HB := Lib.hid hb
  have HNE := Lib.hid hne
  have hcap := hby.hcap
  have hmax := hby.hmax
  clear hb hby hne
  by_cases hlt : i < bn
  · obtain ⟨k, rfl⟩ : ∃ k : Nat, i = k := ⟨i.toNat, by omega⟩
    obtain ⟨b, off, x, rfl, hc, hx0, hx1⟩ := HBY.out.at (k := k) (by omega)
    have hbne : b ≠ cb := HNE.out b off rfl (by omega)
    go_enter Try.func126, Try.ntmps126
    have hbne' : ¬ cb = b := fun e => hbne e.symm
    have hki : 0 ≤ (k : Int) + 1 := by omega
    have hkj : (k : Int) + 1 ≤ 9223372036854775807 := by omega
    have HFIN := Lib.hid (fun (v : Int) (W : World) (hW : Drew ((w.setCell ⟨cb, 2, none⟩ (.int .i64 v)).setCell ⟨cb, 1, none⟩ (.int .i64 ((k : Int) + 1))) W) =>
      cur_after (i' := (k : Int) + 1) (v := v) HB.out HBY.out hki (by omega) HNE.out (W0 := (w.setCell ⟨cb, 2, none⟩ (.int .i64 v)).setCell ⟨cb, 1, none⟩ (.int .i64 ((k : Int) + 1)))
        (by rw [heap_setCell_same _ _ _ _ _ _ (heap_setCell_same _ _ _ _ _ _ HB.out)]; rfl)
        ⟨rfl, rfl, rfl, by simp, fun j hj hne => by
          have hj : j ≠ cb := fun e => hne (by rw [e])
          rw [heap_setCell_other _ _ _ _ hj, heap_setCell_other _ _ _ _ hj]⟩ hW.ext)
    go_wp2_with fail
    go_quiet (fail)
    go_wp2_with fail
    go_quiet (fail)
    go_wp2_with fail
    go_quiet (fail)
    go_wp2_with fail
    refine bodyPost_ret (v := .int .i64 _) (by simp [results, Try.results126, go_sem]; rfl) rfl ⟨⟨_, rfl, (and_255 _).1, (and_255 _).2⟩, HFIN.out _ _ ⟨_, rfl⟩⟩
  · have HFIN := Lib.hid (fun (v : Int) (W : World) (hW : Drew (w.setCell ⟨cb, 2, none⟩ (.int .i64 v)) W) =>
      cur_after (i' := i) (v := v) HB.out HBY.out h0 h1 HNE.out (W0 := w.setCell ⟨cb, 2, none⟩ (.int .i64 v))
        (by rw [heap_setCell_same _ _ _ _ _ _ HB.out]; rfl)
        ⟨rfl, rfl, rfl, by simp, fun j hj hne => by
          have hj : j ≠ cb := fun e => hne (by rw [e])
          rw [heap_setCell_other _ _ _ _ hj]⟩ hW.ext)
    go_enter Try.func126, Try.ntmps126
    go_wp2_with fail
    go_quiet (fail)
    go_wp2_with fail
    go_quiet (fail)
    go_wp2_with fail
    refine bodyPost_ret (v := .int .i64 _) (by simp [results, Try.results126, go_sem]; rfl) rfl ⟨⟨_, rfl, (and_255 _).1, (and_255 _).2⟩, HFIN.out _ _ (Drew.trans ⟨_, rfl⟩ ⟨_, rfl⟩)⟩

/-- Some number comes out, in its bounds. -/
def Drawn (w : World) (cb : Nat) (lo hi : Int) (e : Ending) (w' : World) : Prop := (∃ x : Int, e = .returned (.int .i64 x) ∧ lo ≤ x ∧ x ≤ hi) ∧ Cur w' cb ∧ w.grownBy w' (some cb)
theorem grown_two {w w1 w2 : World} {cb : Nat} (h : w.grownBy w1 (some cb)) (k : w1.grownBy w2 (some cb)) : w.grownBy w2 (some cb) := grown_trans h k (fun k hk => .inl hk)

set_option maxHeartbeats 8000000 in
theorem s_l1Below {w : World} {cb : Nat} (h : Cur w cb) (n : Int) (hn : 1 ≤ n) :
    Calls Try.prog 68 #[.pointer (some ⟨cb, 0, none⟩), .int .i64 n] w (Drawn w cb 0 (n - 1)) := by
  have H := Lib.hid h
  clear h
  have hn0 : ¬ n ≤ 0 := by omega
  have hnz : (n == 0) = false := by simp; omega
  by_cases hle : n ≤ 256
  · go_enter Try.func68, Try.ntmps68
    go_wp2_with fail
    refine (s_l1Byte H.out).mono ?_
    rintro e w1 ⟨⟨x, rfl, hx0, hx1⟩, hc, hg⟩
    have HC := Lib.hid hc
    have HG := Lib.hid hg
    clear hc hg
    go_wp2_with fail
    go_ret
    refine ⟨⟨_, rfl, Int.emod_nonneg _ (by omega), ?_⟩, HC.out, HG.out⟩
    have := Int.emod_lt_of_pos x (show 0 < n by omega)
    omega
  · go_enter Try.func68, Try.ntmps68
    go_wp2_with fail
    refine (s_l1Byte H.out).mono ?_
    rintro e w1 ⟨⟨x, rfl, hx0, hx1⟩, hc, hg⟩
    have H1 := Lib.hid hc
    have G1 := Lib.hid hg
    clear hc hg
    go_wp2_with fail
    refine (s_l1Byte H1.out).mono ?_
    rintro e w2 ⟨⟨y, rfl, hy0, hy1⟩, hc, hg⟩
    have H2 := Lib.hid hc
    have G2 := Lib.hid (grown_two G1.out hg)
    clear hc hg
    go_wp2_with fail
    refine (s_l1Byte H2.out).mono ?_
    rintro e w3 ⟨⟨z, rfl, hz0, hz1⟩, hc, hg⟩
    have H3 := Lib.hid hc
    have G3 := Lib.hid (grown_two G2.out hg)
    clear hc hg
    go_wp2_with fail
    refine (s_l1Byte H3.out).mono ?_
    rintro e w4 ⟨⟨u, rfl, hu0, hu1⟩, hc, hg⟩
    have H4 := Lib.hid hc
    have G4 := Lib.hid (grown_two G3.out hg)
    clear hc hg
    go_wp2_with fail
    go_ret
    refine ⟨⟨_, rfl, Int.emod_nonneg _ (by omega), ?_⟩, H4.out, G4.out⟩
    have := Int.emod_lt_of_pos (x * 16777216 + y * 65536 + z * 256 + u) (show 0 < n by omega)
    omega

set_option maxHeartbeats 8000000 in
/-- One of a list. -/
theorem s_l1PickInt {w : World} {cb : Nat} (h : Cur w cb) {a : Option Addr} {n cap : Nat} {l : List Int} (hl : Ints w a n cap l) (hn : 1 ≤ n) (hne : ∀ b off, a = some ⟨b, off, none⟩ → b ≠ cb) :
    Calls Try.prog 86 #[.pointer (some ⟨cb, 0, none⟩), .slice a n cap] w fun e w' => (∃ k : Nat, k < n ∧ e = .returned (.int .i64 (l[k]?.getD 0))) ∧ Cur w' cb ∧ w.grownBy w' (some cb) := by
  have hcap := hl.hcap
  have hmax := hl.hmax
  have H := Lib.hid (s_l1Below h (n : Int) (by omega))
  have HL := Lib.hid hl
  have HN := Lib.hid hne
  clear h hl hne
  go_enter Try.func86, Try.ntmps86
  go_wp2_with fail
  refine H.out.mono ?_
  rintro e w1 ⟨⟨x, rfl, hx0, hx1⟩, hc, hg⟩
  obtain ⟨k, rfl⟩ : ∃ k : Nat, x = k := ⟨x.toNat, by omega⟩
  have hk : k < n := by omega
  obtain ⟨b, off, rfl, hcell⟩ := HL.out.at hk
  have hcell1 : w1.cell? ⟨b, off + k, none⟩ = some (.int .i64 (l[k]?.getD 0)) :=
    (cell_same (hg.block b (World.block_lt_of_cell? _ _ hcell) (fun e => HN.out b off rfl (Option.some.inj e))) _).trans hcell
  have HC := Lib.hid hc
  have HG := Lib.hid hg
  clear hc hg hcell
  go_wp2_with fail
  go_ret
  exact ⟨⟨k, hk, rfl⟩, HC.out, HG.out⟩

end Go.Proofs.Ytgohdmnbnhehnaa
