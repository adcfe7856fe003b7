/- Slices of slices of integers: the laws' copies, sizes and comparisons, and the library's IndexFunc and ContainsFunc over them. -/
import Derived.Test.YtgohdmnbnhehnaaConv
namespace Go.Proofs.Ytgohdmnbnhehnaa
set_option linter.unusedVariables false
open Go.RowKit

/-- A slice of slices of ints that can be read. -/
structure IntSS (w : World) (a : Option Addr) (n cap : Nat) (L : List (List Int)) : Prop where
  hlen : L.length = n
  hcap : n ≤ cap
  hmax : cap ≤ 9223372036854775807
  cell : ∀ k, k < n → ∃ b off, a = some ⟨b, off, none⟩ ∧ ∀ k, k < n → ∃ a' n' c', w.cell? ⟨b, off + k, none⟩ = some (.slice a' n' c') ∧ Ints w a' n' c' (L[k]?.getD [])
theorem IntSS.ext {w w' : World} {a : Option Addr} {n cap : Nat} {L : List (List Int)} (h : IntSS w a n cap L) (hx : Ext w w') : IntSS w' a n cap L :=
  ⟨h.hlen, h.hcap, h.hmax, fun k hk => let ⟨b, off, e, hc⟩ := h.cell k hk; ⟨b, off, e, fun k hk => let ⟨a', n', c', h1, h2⟩ := hc k hk; ⟨a', n', c', hx.cellSome h1, h2.ext hx⟩⟩⟩
theorem IntSS.at {w : World} {a : Option Addr} {n cap : Nat} {L : List (List Int)} (h : IntSS w a n cap L) {k : Nat} (hk : k < n) :
    ∃ b off a' n' c', a = some ⟨b, off, none⟩ ∧ w.cell? ⟨b, off + k, none⟩ = some (.slice a' n' c') ∧ Ints w a' n' c' (L[k]?.getD []) :=
  let ⟨b, off, e, hc⟩ := h.cell k hk; let ⟨a', n', c', h1, h2⟩ := hc k hk; ⟨b, off, a', n', c', e, h1, h2⟩
theorem IntSS.alloc {w : World} {a : Option Addr} {n cap : Nat} {L : List (List Int)} (h : IntSS w a n cap L) (o : Obj) : IntSS (w.alloc o) a n cap L := h.ext (Ext.alloc w o)
theorem IntSS.drewN {w : World} {a : Option Addr} {n cap : Nat} {L : List (List Int)} (h : IntSS w a n cap L) (m : Nat) : IntSS (w.drewN m) a n cap L := h.ext (Drew.ext ⟨m, rfl⟩)

theorem takeL_snoc {α : Type} {L : List (List α)} {k : Nat} (h : k < L.length) : L.take (k+1) = L.take k ++ [L[k]?.getD []] := by
  rw [List.take_succ_eq_append_getElem h]; simp [h]

/-- What is left of a budget behind all rows. -/
def szStep (left : Int) (l : List Int) : Int := if left < 0 then -1 else szF left l.length
def szSS (left : Int) (L : List (List Int)) : Int := L.foldl szStep (szF left L.length)
theorem szStep_bd {left : Int} {l : List Int} (h1 : left ≤ 1048576) : -1 ≤ szStep left l ∧ szStep left l ≤ 1048576 := by unfold szStep szF; split <;> (try split) <;> omega
theorem szFold_neg : ∀ (L : List (List Int)) (left : Int), left = -1 → L.foldl szStep left = -1
  | [], _, h => h
  | l :: L, _, h => by subst h; exact szFold_neg L _ (by simp [szStep])
theorem szFold_bd : ∀ (L : List (List Int)) (left : Int), left ≤ 1048576 → -1 ≤ left → -1 ≤ L.foldl szStep left ∧ L.foldl szStep left ≤ 1048576
  | [], _, h, h' => ⟨h', h⟩
  | l :: L, left, h, _ => szFold_bd L _ (szStep_bd h).2 (szStep_bd h).1
theorem szFold_le : ∀ (L : List (List Int)) (left : Int), left ≤ 1048576 → 0 ≤ L.foldl szStep left → 0 ≤ left ∧ ∀ l ∈ L, (l.length : Int) ≤ left
  | [], left, _, h => ⟨h, by simp⟩
  | l :: L, left, h1, h => by
    have h2 := szFold_le L (szStep left l) (szStep_bd h1).2 h
    have h3 : 0 ≤ left ∧ (l.length : Int) ≤ left ∧ szStep left l ≤ left := by
      have := h2.1
      unfold szStep szF at this ⊢
      split at this
      · omega
      · split at this
        · omega
        · rw [if_neg (by omega), if_neg (by omega)]; omega
    refine ⟨h3.1, fun x hx => ?_⟩
    rcases List.mem_cons.1 hx with rfl | hx
    · exact h3.2.1
    · exact Int.le_trans (h2.2 x hx) h3.2.2
theorem szSS_le {L : List (List Int)} (h : 0 ≤ szSS 1048576 L) : (L.length : Int) ≤ 1048576 ∧ ∀ l ∈ L, l.length ≤ 1048576 := by
  have hz := szF_le 1048576 L.length (by omega) (by omega)
  have := szFold_le L (szF 1048576 L.length) hz.2.1 h
  exact ⟨hz.2.2 this.1, fun l hl => by have := this.2 l hl; omega⟩

theorem Try.infoInts : (Try.prog.info? 24).map (fun i => (i.zero, i.size, i.bytes)) = some (some (.slice none 0 0), 1, 24) := by kernel_rfl

theorem mk_slices (n : Nat) (hn : n ≤ 1099511627776) (w : World) :
    (Instr.makeSlice 40 (.int .i64 (n : Int)) (.int .i64 (n : Int))).run Try.prog w = .ok (.slice (some ⟨w.heap.size, 0, none⟩) n n) (w.alloc (.cells (List.replicate n (Value.slice none 0 0)).toArray 24)) := by
  obtain ⟨i, hi, hz0, hz1, hz2⟩ := info_parts Try.infoInts
  have hr := run_make (P := Try.prog) w 40 24 i (.slice none 0 0) Try.underlying40 hi hz0 .i64 .i64 n n (by omega) (Int.le_refl _) (by rw [hz2]; omega) (by omega)
  simp only [Int.toNat_natCast] at hr
  rw [hr, hz1]
  have : madeCells (Value.slice none 0 0).cells (n * 1) = (List.replicate n (Value.slice none 0 0)).toArray := by
    apply Array.toList_inj.1
    show (madeCells #[Value.slice none 0 0] (n * 1)).toList = _
    rw [toList_madeCells_one]; simp
  rw [this]

/-- The first k places hold copies of the first k rows, each in a block of its own behind B. -/
def Filled (w : World) (B : Nat) (vs : List Value) (L : List (List Int)) (k : Nat) : Prop :=
  ∀ j, j < k → ∃ b m, vs[j]? = some (.slice (some ⟨b, 0, none⟩) m m) ∧ B < b ∧ (L[j]?.getD []).length = m ∧ Row w b 3 (L[j]?.getD [])
theorem Filled.ext {w w' : World} {B : Nat} {vs : List Value} {L : List (List Int)} {k : Nat} (h : Filled w B vs L k) (hx : Ext w w') : Filled w' B vs L k :=
  fun j hj => let ⟨b, m, h1, h2, h3, h4⟩ := h j hj; ⟨b, m, h1, h2, h3, h4.ext hx⟩
theorem Filled.snoc {w : World} {B : Nat} {vs : List Value} {L : List (List Int)} {k : Nat} (h : Filled w B vs L k) (hv : k < vs.length) {b m : Nat} (hb : B < b) (hm : (L[k]?.getD []).length = m) (hr : Row w b 3 (L[k]?.getD [])) :
    Filled (w.setCell ⟨B, k, none⟩ (.slice (some ⟨b, 0, none⟩) m m)) B (vs.set k (.slice (some ⟨b, 0, none⟩) m m)) L (k + 1) := by
  intro j hj
  by_cases hjk : j = k
  · subst hjk
    exact ⟨b, m, by simp [hv], hb, hm, hr.other (by simp; omega) _⟩
  · obtain ⟨b', m', h1, h2, h3, h4⟩ := h j (by omega)
    exact ⟨b', m', by rw [List.getElem?_set_ne (by omega)]; exact h1, h2, h3, h4.other (by simp; omega) _⟩

set_option maxHeartbeats 400000 in
theorem l_eqIntSS {w : World} {a a' : Option Addr} {n n' cap cap' : Nat} {L L' : List (List Int)} (h : IntSS w a n cap L) (h' : IntSS w a' n' cap' L') :
    Calls Try.prog 49 #[.slice a n cap, .slice a' n' cap'] w fun e w' => e = .returned (.bool (decide (L = L'))) ∧ Drew w w' := by
  have hn := h.hcap
  have hm := h.hmax
  have hn' := h'.hcap
  have hm' := h'.hmax
  have HL := Lib.hid h.hlen
  have HL' := Lib.hid h'.hlen
  by_cases hne : n = n'
  · subst hne
    go_enter Try.func49, Try.ntmps49
    go_wp2
    go_loopw [5] (fun i wr => ∃ k : Nat, k ≤ n ∧ i = .int .i64 k ∧ Hid (L.take k = L'.take k) ∧ Drew w wr) (fun i _ => n - (intOf i).toNat)
    case atStart => exact ⟨0, Nat.zero_le _, rfl, Lib.hid rfl, Drew.refl _⟩
    case round =>
      obtain ⟨k, hk, rfl, HT, hx⟩ := hrel
      by_cases hlt : k < n
      · obtain ⟨b, off, a1, n1, c1, rfl, hc, hr⟩ := (h.ext hx.ext).at hlt
        obtain ⟨b', off', a2, n2, c2, rfl, hc', hr'⟩ := (h'.ext hx.ext).at hlt
        have HE := Lib.hid fun m => quiet_drew (l_eqIntS (hr.drewN m) (hr'.drewN m))
        clear hr hr'
        cases hq : decide (L[k]?.getD [] = L'[k]?.getD [])
        · have HQ := Lib.hid hq
          rw [hq] at HE
          clear hq
          go_wp2
          go_quiet ((go_at_call 116; exact HE.out _))
          go_wp2
          go_ret
          refine ⟨ret_bool ?_, hx.trans ⟨_, rfl⟩⟩
          symm
          rw [decide_eq_false_iff_not]
          intro e
          have := HQ.out
          rw [decide_eq_false_iff_not] at this
          exact this (by rw [e])
        · have HQ := Lib.hid hq
          rw [hq] at HE
          clear hq
          go_wp2
          go_quiet ((go_at_call 116; exact HE.out _))
          go_wp2
          go_roundw
          case rel => exact ⟨k + 1, by omega, by go_num, Lib.hid (by rw [takeL_snoc (by have := HL.out; omega), takeL_snoc (by have := HL'.out; omega), HT.out, of_decide_eq_true HQ.out]), hx.trans ⟨_, rfl⟩⟩
          case measure => simp [intOf]; omega
      · go_wp2
        go_ret
        refine ⟨ret_bool ?_, hx⟩
        symm
        rw [decide_eq_true_eq]
        have := HT.out
        rwa [List.take_of_length_le (by have := HL.out; omega), List.take_of_length_le (by have := HL'.out; omega)] at this
  · have hne' : ((n : Int) != (n' : Int)) = true := by simp; omega
    have HN := Lib.hid hne
    clear hne
    go_enter Try.func49, Try.ntmps49
    go_wp2
    go_ret
    refine ⟨ret_bool ?_, Drew.refl _⟩
    symm
    rw [decide_eq_false_iff_not]
    intro e
    exact HN.out (by rw [← HL.out, ← HL'.out, e])

/-- What a function value that asks of a slice of ints answers, in every world grown from w. -/
def AsksS (P : Program) (w : World) (fid : FuncId) (ca : Array Value) (p : List Int → Bool) : Prop :=
  ∀ (l : List Int) (a : Option Addr) (n c : Nat) (w1 : World), Ext w w1 → Ints w1 a n c l → Calls P fid (#[.slice a n c] ++ ca) w1 fun e w2 => e = .returned (.bool (p l)) ∧ Ext w1 w2

end Go.Proofs.Ytgohdmnbnhehnaa
