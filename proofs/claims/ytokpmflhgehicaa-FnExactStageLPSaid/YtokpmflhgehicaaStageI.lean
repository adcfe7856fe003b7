/- The linear program of a stage: the program. -/
import Derived.Test.YtokpmflhgehicaaDel
import Derived.Test.YtokpmflhgehicaaStageS
import Derived.Test.YtokpmflhgehicaaBest
namespace Go.Proofs.Ytokpmflhgehicaa
set_option linter.unusedVariables false
set_option linter.unusedSimpArgs false
set_option maxRecDepth 100000
open Go.RowKit

/-- The coalitions of a list as one number. -/
def seenN (L : List (Int × Int × Int)) : Nat := L.foldl (fun a f => a ||| 2 ^ f.1.toNat) 0
theorem seenN_snoc {L : List (Int × Int × Int)} {k : Nat} (h : k < L.length) : seenN (L.take (k + 1)) = seenN (L.take k) ||| 2 ^ (L[k]?.getD (0, 0, 0)).1.toNat := by
  unfold seenN; rw [take_snocX h, List.foldl_append]; rfl
theorem seenN_bit (c : Nat) : ∀ (L : List (Int × Int × Int)), (∀ f ∈ L, 0 ≤ f.1) → (seenN L).testBit c = hasX L (c : Int) := by
  have key : ∀ (L : List (Int × Int × Int)) (s : Nat), (∀ f ∈ L, 0 ≤ f.1) → (L.foldl (fun a f => a ||| 2 ^ f.1.toNat) s).testBit c = (s.testBit c || hasX L (c : Int)) := by
    intro L
    induction L with
    | nil => intro s _; simp [hasX]
    | cons f L ih =>
      intro s h
      rw [List.foldl_cons, ih _ (fun g hg => h g (List.mem_cons_of_mem _ hg)), Nat.testBit_or, Nat.testBit_two_pow]
      have h0 := h f List.mem_cons_self
      have : decide (f.1.toNat = c) = (f.1 == (c : Int)) := by rw [Bool.eq_iff_iff]; simp; omega
      rw [this]
      simp only [hasX, List.any_cons, Bool.or_assoc]
  intro L h
  have := key L 0 h
  simpa [seenN] using this
theorem seenN_lt : ∀ (L : List (Int × Int × Int)), (∀ f ∈ L, f.1 ≤ 30) → seenN L < 2 ^ 31 := by
  have key : ∀ (L : List (Int × Int × Int)) (s : Nat), s < 2 ^ 31 → (∀ f ∈ L, f.1 ≤ 30) → L.foldl (fun a f => a ||| 2 ^ f.1.toNat) s < 2 ^ 31 := by
    intro L
    induction L with
    | nil => intro s hs _; exact hs
    | cons f L ih =>
      intro s hs h
      have h0 := h f List.mem_cons_self
      exact ih _ (Nat.or_lt_two_pow hs (Nat.pow_lt_pow_right (by omega) (by omega))) fun g hg => h g (List.mem_cons_of_mem _ hg)
  exact fun L h => key L 0 (by decide) h
theorem bit_nat (s k : Nat) : bit (s : Int) k = s.testBit k := by
  unfold bit
  rw [Nat.testBit_eq_decide_div_mod_eq, Bool.eq_iff_iff]
  have : (s : Int) / 2 ^ k = ((s / 2 ^ k : Nat) : Int) := by simp
  rw [this]; simp only [decide_eq_true_eq]; omega
theorem or_pow {s k : Nat} (hs : s < 2 ^ 31) (hk : k ≤ 30) : bits .or .i64 (s : Int) (2 ^ k) = ((s ||| 2 ^ k : Nat) : Int) := by
  have h2 : 2 ^ k < 2 ^ 31 := Nat.pow_lt_pow_right (by omega) (by omega)
  have := or_i64 s (2 ^ k) (by omega) (by omega)
  rw [← this]
  congr 1
theorem pow_le30 (k : Nat) (h : k ≤ 30) : (1 : Int) ≤ 2 ^ k ∧ (2 : Int) ^ k ≤ 1073741824 := by
  have h1 : 2 ^ k ≤ 2 ^ 30 := Nat.pow_le_pow_right (by omega) h
  have h2 : 0 < 2 ^ k := Nat.pow_pos (by omega)
  have h3 : ((2 ^ k : Nat) : Int) = (2 : Int) ^ k := by simp
  rw [← h3]; omega

/-- A level as cells. -/
def fixE : Enc (Int × Int × Int) := ⟨fun x => [.int .i64 x.1, .int .i64 x.2.1, .int .i64 x.2.2], 3, fun _ => rfl, by omega, fun x u h => by simp only [List.mem_cons, List.not_mem_nil, or_false] at h; rcases h with rfl | rfl | rfl <;> rfl⟩
theorem Fixs.slc {w : World} {a : Option Addr} {n cap : Nat} {l : List (Int × Int × Int)} (h : Fixs w a n cap l) : Slc fixE w a n cap l :=
  ⟨h.hlen, h.hcap, h.hmax, fun k hk => by
    obtain ⟨b, off, e, hc⟩ := h.cell k hk
    refine ⟨b, off, e, fun k x j v hx hv => ?_⟩
    have hkl := (List.getElem?_eq_some_iff.1 hx).1
    have h3 := hc k (by rw [← h.hlen]; exact hkl)
    rw [hx] at h3
    simp only [Option.getD_some] at h3
    match j with
    | 0 => obtain rfl : Value.int .i64 x.1 = v := by simpa [fixE] using hv
           exact h3.1
    | 1 => obtain rfl : Value.int .i64 x.2.1 = v := by simpa [fixE] using hv
           exact h3.2.1
    | 2 => obtain rfl : Value.int .i64 x.2.2 = v := by simpa [fixE] using hv
           exact h3.2.2
    | j + 3 => simp [fixE] at hv⟩
theorem Slc.fixs {w : World} {a : Option Addr} {n cap : Nat} {l : List (Int × Int × Int)} (h : Slc fixE w a n cap l) : Fixs w a n cap l :=
  ⟨h.hlen, h.hcap, h.hmax, fun k hk => by
    obtain ⟨b, off, e, hc⟩ := h.cell k hk
    refine ⟨b, off, e, fun k hk => ?_⟩
    have hkl : k < l.length := by rw [h.hlen]; exact hk
    have hx := List.getElem?_eq_getElem hkl
    rw [hx]
    exact ⟨hc k _ 0 _ hx rfl, hc k _ 1 _ hx rfl, hc k _ 2 _ hx rfl⟩⟩
theorem Try.infoFix : (Try.prog.info? 105).map (fun i => (i.zero, i.size, i.bytes)) = some (some (.agg #[.int .i64 0, .int .i64 0, .int .i64 0]), fixE.c, 24) := by kernel_rfl

set_option maxHeartbeats 400000 in
theorem clone_fixs {w : World} {a : Option Addr} {n cap : Nat} {l : List (Int × Int × Int)} (h : Fixs w a n cap l) (hb : n ≤ 1099511627776) :
    Calls Try.prog 133 #[.slice a n cap] w fun e w' => ∃ v, e = .returned v ∧ OwnG fixE 105 w' w.heap.size v l ∧ Ext w w' := by
  have heq : ∀ w' : World, (binOp .eql 29 (.slice a n cap) (.slice none 0 0)).run Try.prog w' = .ok (.bool a.isNone) w' := fun w' => Lib.run_eql_slice_nil w' _ _ a n cap 0 0 Try.underlying29
  have HL := Lib.hid h.hlen
  cases a with
  | none =>
    have hl : l = [] := by
      have : ¬ 0 < n := fun hn => by obtain ⟨b, off, e, _⟩ := h.cell 0 hn; cases e
      exact List.eq_nil_of_length_eq_zero (by have := HL.out; omega)
    simp only [Option.isNone_none] at heq
    go_enter Try.func133, Try.ntmps133
    go_wp2
    go_ret
    exact ⟨_, rfl, by rw [hl]; exact OwnG.nil _ _ w _, Ext.refl _⟩
  | some ad =>
    simp only [Option.isNone_some] at heq
    have HI := Lib.hid ((h.ext (Ext.alloc w (.cells #[] 105))).slc)
    have HO := Lib.hid (OwnG.madeS fixE 105 w w.heap.size _ rfl (Nat.le_refl _))
    clear h
    go_enter Try.func133, Try.ntmps133
    go_wp2_with (first | (at_builtin; refine append_g fixE Try.infoFix rfl Try.underlying29 (by decide) rfl _ _ rfl w.heap.size _ _ rfl HO.out _ n _ l rfl HI.out (by simpa using hb) (by simp) ?_; intro v' w1 ho hg hnear))
    go_ret
    exact ⟨_, rfl, ho, (Ext.alloc _ _).grown hg (fun k hk => Nat.le_of_eq (Option.some.inj (show some w.heap.size = some k from hk)))⟩

end Go.Proofs.Ytokpmflhgehicaa
