import Derived.Test.YtgohdmnbnhehnaaGreatBalAllG0
import Derived.Deep.Slices
import Derived.ProofKit
import Derived.OpenShut
import Derived.ShutString
import Derived.ChangeOld
import Derived.Lib.SmallJoins
namespace Go.Proofs.YtgohdmnbnhehnaaGreat
set_option linter.unusedVariables false
open Go.RowKit
theorem Tryz.infoInt : (Tryz.prog.info? 3).map (fun i => (i.zero, i.size, i.bytes)) = some (some (.int .i64 0), 1, 8) := by kernel_rfl
theorem mk_ints (n : Nat) (hn : n ≤ 1099511627776) (w : World) :
    (Instr.makeSlice 22 (.int .i64 (n : Int)) (.int .i64 (n : Int))).run Tryz.prog w = .ok (.slice (some ⟨w.heap.size, 0, none⟩) n n) (w.alloc (.cells (intCells (List.replicate n 0)) 3)) := by
  obtain ⟨i, hi, hz0, hz1, hz2⟩ := info_parts Tryz.infoInt
  have hr := run_make (P := Tryz.prog) w 22 3 i (.int .i64 0) Tryz.underlying22 hi hz0 .i64 .i64 n n (by omega) (Int.le_refl _) (by rw [hz2]; omega) (by omega)
  simp only [Int.toNat_natCast] at hr
  rw [hr, hz1]
  have : madeCells (Value.int .i64 0).cells (n * 1) = intCells (List.replicate n 0) := by
    apply Array.toList_inj.1
    show (madeCells #[Value.int .i64 0] (n * 1)).toList = _
    rw [toList_madeCells_one]; simp [intCells]
  rw [this]
def part (l : List Int) (k : Nat) : List Int := l.take k ++ List.replicate (l.length - k) 0
theorem part_len (l : List Int) (k : Nat) (h : k ≤ l.length) : (part l k).length = l.length := by simp [part]; omega
theorem part_zero (l : List Int) : part l 0 = List.replicate l.length 0 := by simp [part]
theorem part_all (l : List Int) : part l l.length = l := by simp [part]
theorem part_set (l : List Int) (k : Nat) (h : k < l.length) : (part l k).set k (l[k]?.getD 0) = part l (k + 1) := by
  unfold part
  rw [List.set_append_right _ _ (by simp; omega)]
  rw [take_snoc h]
  obtain ⟨m, hm⟩ : ∃ m, l.length - k = m + 1 := ⟨l.length - k - 1, by omega⟩
  have hm' : l.length - (k + 1) = m := by omega
  have : k - (List.take k l).length = 0 := by simp; omega
  rw [hm, hm', this]
  simp [List.replicate_succ]
set_option maxHeartbeats 400000 in
theorem l_toIntS {w : World} {a : Option Addr} {n cap : Nat} {l : List Int} (h : Ints w a n cap l) (hb : n ≤ 1099511627776) :
    Calls Tryz.prog 11 #[.slice a n cap] w fun e w' => ∃ b, e = .returned (.slice (some ⟨b, 0, none⟩) n n) ∧ Row w' b 3 l ∧ w.heap.size ≤ b ∧ Ext w w' := by
  have hn := h.hcap
  have hm := h.hmax
  have hmk := mk_ints n hb
  have HL := Lib.hid h.hlen
  go_enter Tryz.func11, Tryz.ntmps11
  go_wp2
  go_loopw [4] (fun i wr => ∃ k : Nat, k ≤ n ∧ i = .int .i64 k ∧ Row wr w.heap.size 3 (part l k) ∧ Ext w wr) (fun i _ => n - (intOf i).toNat)
  case atStart => exact ⟨0, Nat.zero_le _, rfl, by unfold Row; rw [heap_alloc_new, part_zero, HL.out], Ext.alloc _ _⟩
  case round =>
    obtain ⟨k, hk, rfl, hrow, hx⟩ := hrel
    by_cases hlt : k < n
    · have h' := h.ext hx
      obtain ⟨b, off, rfl, hc⟩ := h'.at hlt
      have hold := hrow.cell (k := k) (by rw [part_len _ _ (by have := HL.out; omega)]; have := HL.out; omega)
      have hfree := hrow.free k
      go_wp2
      go_roundw
      case rel => exact ⟨k + 1, by omega, by go_num, by rw [← part_set _ _ (by have := HL.out; omega)]; exact hrow.set k _, hx.setCell (Nat.le_refl _) _⟩
      case measure => simp [intOf]; omega
    · go_wp2
      go_ret
      refine ⟨_, rfl, ?_, Nat.le_refl _, hx⟩
      have hk' : k = l.length := by have := HL.out; omega
      rw [hk', part_all] at hrow
      exact hrow
set_option maxHeartbeats 400000 in
theorem l_eqIntS {w : World} {a a' : Option Addr} {n n' cap cap' : Nat} {l l' : List Int} (h : Ints w a n cap l) (h' : Ints w a' n' cap' l') :
    Calls Tryz.prog 13 #[.slice a n cap, .slice a' n' cap'] w fun e w' => e = .returned (.bool (decide (l = l'))) ∧ Drew w w' := by
  have hn := h.hcap
  have hm := h.hmax
  have hn' := h'.hcap
  have hm' := h'.hmax
  have HL := Lib.hid h.hlen
  have HL' := Lib.hid h'.hlen
  by_cases hne : n = n'
  · subst hne
    go_enter Tryz.func13, Tryz.ntmps13
    go_wp2
    go_loopw [5] (fun i wr => ∃ k : Nat, k ≤ n ∧ i = .int .i64 k ∧ l.take k = l'.take k ∧ Drew w wr) (fun i _ => n - (intOf i).toNat)
    case atStart => exact ⟨0, Nat.zero_le _, rfl, rfl, Drew.refl _⟩
    case round =>
      obtain ⟨k, hk, rfl, htk, hx⟩ := hrel
      have HT := Lib.hid htk
      clear htk
      by_cases hlt : k < n
      · have h1 := h.ext hx.ext
        have h1' := h'.ext hx.ext
        obtain ⟨b, off, rfl, hc⟩ := h1.at hlt
        obtain ⟨b', off', rfl, hc'⟩ := h1'.at hlt
        by_cases hq : l[k]?.getD 0 = l'[k]?.getD 0
        · have HQ := Lib.hid hq
          have hq1 : (l[k]?.getD 0 != l'[k]?.getD 0) = false := by simp [hq]
          clear hq
          go_wp2
          go_quiet (fail)
          go_wp2
          go_roundw
          case rel => exact ⟨k + 1, by omega, by go_num, by rw [take_snoc (by have := HL.out; omega), take_snoc (by have := HL'.out; omega), HT.out, HQ.out], hx.trans ⟨_, rfl⟩⟩
          case measure => simp [intOf]; omega
        · have HQ := Lib.hid hq
          have hq1 : (l[k]?.getD 0 != l'[k]?.getD 0) = true := by simp [hq]
          clear hq
          go_wp2
          go_quiet (fail)
          go_wp2
          go_ret
          refine ⟨ret_bool ?_, hx.trans ⟨_, rfl⟩⟩
          symm
          rw [decide_eq_false_iff_not]
          intro e
          exact HQ.out (by rw [e])
      · go_wp2
        go_ret
        refine ⟨ret_bool ?_, hx⟩
        symm
        rw [decide_eq_true_eq]
        have := HT.out
        rwa [List.take_of_length_le (by have := HL.out; omega), List.take_of_length_le (by have := HL'.out; omega)] at this
  · have hne' : ((n : Int) != (n' : Int)) = true := by simp; omega
    have HN := Lib.hid hne
    clear hne
    go_enter Tryz.func13, Tryz.ntmps13
    go_wp2
    go_ret
    refine ⟨ret_bool ?_, Drew.refl _⟩
    symm
    rw [decide_eq_false_iff_not]
    intro e
    exact HN.out (by rw [← HL.out, ← HL'.out, e])
end Go.Proofs.YtgohdmnbnhehnaaGreat
namespace Go.Proofs.YtgohdmnbnhehnaaGreat
set_option linter.unusedVariables false
open Go.RowKit
structure IntSS (w : World) (a : Option Addr) (n cap : Nat) (L : List (List Int)) : Prop where
  hlen : L.length = n
  hcap : n ≤ cap
  hmax : cap ≤ 9223372036854775807
  cell : ∀ k, k < n → ∃ b off, a = some ⟨b, off, none⟩ ∧ ∀ k, k < n → ∃ a' n' c', w.cell? ⟨b, off + k, none⟩ = some (.slice a' n' c') ∧ Ints w a' n' c' (L[k]?.getD [])
theorem IntSS.ext {w w' : World} {a : Option Addr} {n cap : Nat} {L : List (List Int)} (h : IntSS w a n cap L) (hx : Ext w w') : IntSS w' a n cap L :=
  ⟨h.hlen, h.hcap, h.hmax, fun k hk => let ⟨b, off, e, hc⟩ := h.cell k hk; ⟨b, off, e, fun k hk => let ⟨a', n', c', h1, h2⟩ := hc k hk; ⟨a', n', c', hx.cellSome h1, h2.ext hx⟩⟩⟩
theorem IntSS.at {w : World} {a : Option Addr} {n cap : Nat} {L : List (List Int)} (h : IntSS w a n cap L) {k : Nat} (hk : k < n) :
    ∃ b off a' n' c', a = some ⟨b, off, none⟩ ∧ w.cell? ⟨b, off + k, none⟩ = some (.slice a' n' c') ∧ Ints w a' n' c' (L[k]?.getD []) :=
  let ⟨b, off, e, hc⟩ := h.cell k hk; let ⟨a', n', c', h1, h2⟩ := hc k hk; ⟨b, off, a', n', c', e, h1, h2⟩
theorem IntSS.alloc {w : World} {a : Option Addr} {n cap : Nat} {L : List (List Int)} (h : IntSS w a n cap L) (o : Obj) : IntSS (w.alloc o) a n cap L := h.ext (Ext.alloc w o)
theorem IntSS.drewN {w : World} {a : Option Addr} {n cap : Nat} {L : List (List Int)} (h : IntSS w a n cap L) (m : Nat) : IntSS (w.drewN m) a n cap L := h.ext (Drew.ext ⟨m, rfl⟩)
theorem takeL_snoc {α : Type} {L : List (List α)} {k : Nat} (h : k < L.length) : L.take (k+1) = L.take k ++ [L[k]?.getD []] := by
  rw [List.take_succ_eq_append_getElem h]; simp [h]
theorem Tryz.infoInts : (Tryz.prog.info? 22).map (fun i => (i.zero, i.size, i.bytes)) = some (some (.slice none 0 0), 1, 24) := by kernel_rfl
def Filled (w : World) (B : Nat) (vs : List Value) (L : List (List Int)) (k : Nat) : Prop :=
  ∀ j, j < k → ∃ b m, vs[j]? = some (.slice (some ⟨b, 0, none⟩) m m) ∧ B < b ∧ (L[j]?.getD []).length = m ∧ Row w b 3 (L[j]?.getD [])
theorem Filled.ext {w w' : World} {B : Nat} {vs : List Value} {L : List (List Int)} {k : Nat} (h : Filled w B vs L k) (hx : Ext w w') : Filled w' B vs L k :=
  fun j hj => let ⟨b, m, h1, h2, h3, h4⟩ := h j hj; ⟨b, m, h1, h2, h3, h4.ext hx⟩
theorem Filled.snoc {w : World} {B : Nat} {vs : List Value} {L : List (List Int)} {k : Nat} (h : Filled w B vs L k) (hv : k < vs.length) {b m : Nat} (hb : B < b) (hm : (L[k]?.getD []).length = m) (hr : Row w b 3 (L[k]?.getD [])) :
    Filled (w.setCell ⟨B, k, none⟩ (.slice (some ⟨b, 0, none⟩) m m)) B (vs.set k (.slice (some ⟨b, 0, none⟩) m m)) L (k + 1) := by
  intro j hj
  by_cases hjk : j = k
  · subst hjk
    exact ⟨b, m, by simp [hv], hb, hm, hr.other (by simp; omega) _⟩
  · obtain ⟨b', m', h1, h2, h3, h4⟩ := h j (by omega)
    exact ⟨b', m', by rw [List.getElem?_set_ne (by omega)]; exact h1, h2, h3, h4.other (by simp; omega) _⟩
end Go.Proofs.YtgohdmnbnhehnaaGreat
namespace Go.Proofs.YtgohdmnbnhehnaaGreat
set_option linter.unusedVariables false
open Go.ChangeShapes Go.WideShapes Go.ChangeAt Go.RowKit Go.Joins Go.Deep
section
variable {H : Type} {enc : TypeId × Value → H} {P : Program} {w : World} {base : Nat} {spare : Nat → Bool} {held : Bool}
theorem open_list {α : Type} [Inhabited α] {E : Value → α → Prop} {t e : TypeId} {fuel : Nat} {v : Value} {x : DataW H × List MemPlace} (ht : P.underlying t = some (.slice e)) (hc : P.cellsOf e = 1)
    (hE : ∀ n u y, DataW.trod enc P w base spare held n e [u] = some y → ∃ z, E u z)
    (h : DataW.trod enc P w base spare held fuel t [v] = some x) :
    ∃ (a : Option Addr) (n cap : Nat) (l : List α), v = .slice a n cap ∧ l.length = n ∧ n ≤ cap ∧ cap ≤ 9223372036854775807 ∧ ∀ k, k < n → ∃ b off, a = some ⟨b, off, none⟩ ∧ ∀ k, k < n → ∃ u, w.cell? ⟨b, off + k, none⟩ = some u ∧ E u (l[k]?.getD default) := by
  rcases open_slice1 ht hc h with ⟨hcs, _⟩ | ⟨a, len, cap, m, n, V, D, Pl, hcs, _, hl, hm, hmm, _, hx⟩
  · simp at hcs
    exact ⟨none, 0, 0, [], hcs, rfl, Nat.le_refl _, by omega, fun k hk => absurd hk (by omega)⟩
  · simp at hcs
    have hlen : len ≤ m := by rw [hmm]; split <;> omega
    obtain ⟨f, hf⟩ := choose_lt (α := α) (n := len) (p := fun i z => E (V i) z) (fun i hi => hE n (V i) _ (hx i (by omega)).2)
    refine ⟨some a, len, cap, (List.range len).map f, hcs, by simp, hl, by simpa [maxLen] using hm, fun k hk => ?_⟩
    obtain ⟨b, off, spot⟩ := a
    have h0 := (hx 0 (by omega)).1
    have hspot : spot = none := by simpa [Addr.add] using World.cell?_spot h0
    subst hspot
    refine ⟨b, off, rfl, fun k hk => ⟨V k, ?_, ?_⟩⟩
    · have h1 := (hx k (by omega)).1
      have ha : (⟨b, off, none⟩ : Addr).add k = ⟨b, off + k, none⟩ := by unfold Addr.add; split <;> simp_all
      rwa [ha] at h1
    · have : ((List.range len).map f)[k]?.getD default = f k := by simp [hk]
      rw [this]
      exact hf k hk
end
end Go.Proofs.YtgohdmnbnhehnaaGreat
