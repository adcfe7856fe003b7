/- Slices of slices of integers: the laws' copies, sizes and comparisons, and the library's IndexFunc and ContainsFunc over them. -/
import Derived.Test.YtokpmflhgehicaaConv
namespace Go.Proofs.Ytokpmflhgehicaa
set_option linter.unusedVariables false
open Go.RowKit

/-- A slice of slices of ints that can be read. -/
structure IntSS (w : World) (a : Option Addr) (n cap : Nat) (L : List (List Int)) : Prop where
  hlen : L.length = n
  hcap : n ≤ cap
  hmax : cap ≤ 9223372036854775807
  cell : ∀ k, k < n → ∃ b off, a = some ⟨b, off, none⟩ ∧ ∀ k, k < n → ∃ a' n' c', w.cell? ⟨b, off + k, none⟩ = some (.slice a' n' c') ∧ Ints w a' n' c' (L[k]?.getD [])
theorem IntSS.ext {w w' : World} {a : Option Addr} {n cap : Nat} {L : List (List Int)} (h : IntSS w a n cap L) (hx : Ext w w') : IntSS w' a n cap L :=
  ⟨h.hlen, h.hcap, h.hmax, fun k hk => let ⟨b, off, e, hc⟩ := h.cell k hk; ⟨b, off, e, fun k hk => let ⟨a', n', c', h1, h2⟩ := hc k hk; ⟨a', n', c', hx.cellSome h1, h2.ext hx⟩⟩⟩
theorem IntSS.at {w : World} {a : Option Addr} {n cap : Nat} {L : List (List Int)} (h : IntSS w a n cap L) {k : Nat} (hk : k < n) :
    ∃ b off a' n' c', a = some ⟨b, off, none⟩ ∧ w.cell? ⟨b, off + k, none⟩ = some (.slice a' n' c') ∧ Ints w a' n' c' (L[k]?.getD []) :=
  let ⟨b, off, e, hc⟩ := h.cell k hk; let ⟨a', n', c', h1, h2⟩ := hc k hk; ⟨b, off, a', n', c', e, h1, h2⟩
theorem IntSS.alloc {w : World} {a : Option Addr} {n cap : Nat} {L : List (List Int)} (h : IntSS w a n cap L) (o : Obj) : IntSS (w.alloc o) a n cap L := h.ext (Ext.alloc w o)
theorem IntSS.drewN {w : World} {a : Option Addr} {n cap : Nat} {L : List (List Int)} (h : IntSS w a n cap L) (m : Nat) : IntSS (w.drewN m) a n cap L := h.ext (Drew.ext ⟨m, rfl⟩)

theorem takeL_snoc {α : Type} {L : List (List α)} {k : Nat} (h : k < L.length) : L.take (k+1) = L.take k ++ [L[k]?.getD []] := by
  rw [List.take_succ_eq_append_getElem h]; simp [h]

/-- What is left of a budget behind all rows. -/
def szStep (left : Int) (l : List Int) : Int := if left < 0 then -1 else szF left l.length
def szSS (left : Int) (L : List (List Int)) : Int := L.foldl szStep (szF left L.length)
theorem szStep_bd {left : Int} {l : List Int} (h1 : left ≤ 1048576) : -1 ≤ szStep left l ∧ szStep left l ≤ 1048576 := by unfold szStep szF; split <;> (try split) <;> omega
theorem szFold_neg : ∀ (L : List (List Int)) (left : Int), left = -1 → L.foldl szStep left = -1
  | [], _, h => h
  | l :: L, _, h => by subst h; exact szFold_neg L _ (by simp [szStep])
theorem szFold_bd : ∀ (L : List (List Int)) (left : Int), left ≤ 1048576 → -1 ≤ left → -1 ≤ L.foldl szStep left ∧ L.foldl szStep left ≤ 1048576
  | [], _, h, h' => ⟨h', h⟩
  | l :: L, left, h, _ => szFold_bd L _ (szStep_bd h).2 (szStep_bd h).1
theorem szFold_le : ∀ (L : List (List Int)) (left : Int), left ≤ 1048576 → 0 ≤ L.foldl szStep left → 0 ≤ left ∧ ∀ l ∈ L, (l.length : Int) ≤ left
  | [], left, _, h => ⟨h, by simp⟩
  | l :: L, left, h1, h => by
    have h2 := szFold_le L (szStep left l) (szStep_bd h1).2 h
    have h3 : 0 ≤ left ∧ (l.length : Int) ≤ left ∧ szStep left l ≤ left := by
      have := h2.1
      unfold szStep szF at this ⊢
      split at this
      · omega
      · split at this
        · omega
        · rw [if_neg (by omega), if_neg (by omega)]; omega
    refine ⟨h3.1, fun x hx => ?_⟩
    rcases List.mem_cons.1 hx with rfl | hx
    · exact h3.2.1
    · exact Int.le_trans (h2.2 x hx) h3.2.2
theorem szSS_le {L : List (List Int)} (h : 0 ≤ szSS 1048576 L) : (L.length : Int) ≤ 1048576 ∧ ∀ l ∈ L, l.length ≤ 1048576 := by
  have hz := szF_le 1048576 L.length (by omega) (by omega)
  have := szFold_le L (szF 1048576 L.length) hz.2.1 h
  exact ⟨hz.2.2 this.1, fun l hl => by have := this.2 l hl; omega⟩

set_option maxHeartbeats 400000 in
theorem l_szIntSS {w : World} {a : Option Addr} {n cap : Nat} {L : List (List Int)} (h : IntSS w a n cap L) (left : Int) (h0 : 0 ≤ left) (h1 : left ≤ 1048576) :
    Calls Try.prog 90 #[.slice a n cap, .int .i64 left] w fun e w' => e = .returned (.int .i64 (szSS left L)) ∧ w = w' := by
  have hn := h.hcap
  have hm := h.hmax
  have HL := Lib.hid h.hlen
  by_cases hlt : left < n
  · have hlt' : left - n < 0 := by omega
    go_enter Try.func90, Try.ntmps90
    go_wp2
    go_ret
    refine ⟨ret_int ?_, rfl⟩
    unfold szSS
    rw [szFold_neg L _ (by unfold szF; rw [if_pos (by rw [HL.out]; exact hlt)])]
  · have hlt' : ¬ left - n < 0 := by omega
    go_enter Try.func90, Try.ntmps90
    go_wp2
    go_loop [1, 5] (fun t i => ∃ (k : Nat) (z : Int), k ≤ n ∧ i = .int .i64 k ∧ t = .int .i64 z ∧ 0 ≤ z ∧ z ≤ 1048576 ∧ Hid (z = (L.take k).foldl szStep (szF left L.length))) (fun _ i => n - (intOf i).toNat)
    case atStart => exact ⟨0, left - n, Nat.zero_le _, rfl, rfl, by omega, by omega, Lib.hid (by unfold szF; rw [HL.out]; simp; omega)⟩
    case round =>
      obtain ⟨k, z, hk, rfl, rfl, hz0, hz1, HZ⟩ := hrel
      by_cases hlt : k < n
      · obtain ⟨b, off, a', n', c', rfl, hc, hr⟩ := h.at hlt
        have HR := Lib.hid hr.hlen
        have hn' : n' ≤ 9223372036854775807 := Nat.le_trans hr.hcap hr.hmax
        clear hr
        have hsz := szF_le z n' hz0 hz1
        by_cases hneg : szF z n' < 0
        · have HN := Lib.hid hneg
          go_wp2_with (first | (go_at_call 81; refine (l_szIntS _ _ _ _ _ hz0 hz1 hn').mono ?_; rintro e w' ⟨rfl, rfl⟩))
          go_ret
          refine ⟨ret_int ?_, rfl⟩
          symm
          unfold szSS
          rw [← List.take_append_drop (k+1) L, List.foldl_append]
          refine szFold_neg _ _ ?_
          rw [List.take_append_drop, takeL_snoc (by have := HL.out; omega), List.foldl_append, ← HZ.out]
          have := HN.out
          show szStep z (L[k]?.getD []) = -1
          unfold szStep
          rw [if_neg (by omega), HR.out]
          unfold szF at this ⊢
          split <;> omega
        · go_wp2_with (first | (go_at_call 81; refine (l_szIntS _ _ _ _ _ hz0 hz1 hn').mono ?_; rintro e w' ⟨rfl, rfl⟩))
          go_round
          case rel =>
            refine ⟨k + 1, szF z n', by omega, by go_num, rfl, by omega, by omega, Lib.hid ?_⟩
            rw [takeL_snoc (by have := HL.out; omega), List.foldl_append, ← HZ.out]
            show _ = szStep z (L[k]?.getD [])
            unfold szStep
            rw [if_neg (by omega), HR.out]
          case measure => simp [intOf]; omega
      · go_wp2
        go_ret
        refine ⟨ret_int ?_, rfl⟩
        rw [HZ.out, List.take_of_length_le (by have := HL.out; omega)]
        rfl

theorem Try.infoInts : (Try.prog.info? 34).map (fun i => (i.zero, i.size, i.bytes)) = some (some (.slice none 0 0), 1, 24) := by kernel_rfl

theorem mk_slices (n : Nat) (hn : n ≤ 1099511627776) (w : World) :
    (Instr.makeSlice 47 (.int .i64 (n : Int)) (.int .i64 (n : Int))).run Try.prog w = .ok (.slice (some ⟨w.heap.size, 0, none⟩) n n) (w.alloc (.cells (List.replicate n (Value.slice none 0 0)).toArray 34)) := by
  obtain ⟨i, hi, hz0, hz1, hz2⟩ := info_parts Try.infoInts
  have hr := run_make (P := Try.prog) w 47 34 i (.slice none 0 0) Try.underlying47 hi hz0 .i64 .i64 n n (by omega) (Int.le_refl _) (by rw [hz2]; omega) (by omega)
  simp only [Int.toNat_natCast] at hr
  rw [hr, hz1]
  have : madeCells (Value.slice none 0 0).cells (n * 1) = (List.replicate n (Value.slice none 0 0)).toArray := by
    apply Array.toList_inj.1
    show (madeCells #[Value.slice none 0 0] (n * 1)).toList = _
    rw [toList_madeCells_one]; simp
  rw [this]

/-- The first k places hold copies of the first k rows, each in a block of its own behind B. -/
def Filled (w : World) (B : Nat) (vs : List Value) (L : List (List Int)) (k : Nat) : Prop :=
  ∀ j, j < k → ∃ b m, vs[j]? = some (.slice (some ⟨b, 0, none⟩) m m) ∧ B < b ∧ (L[j]?.getD []).length = m ∧ Row w b 3 (L[j]?.getD [])
theorem Filled.ext {w w' : World} {B : Nat} {vs : List Value} {L : List (List Int)} {k : Nat} (h : Filled w B vs L k) (hx : Ext w w') : Filled w' B vs L k :=
  fun j hj => let ⟨b, m, h1, h2, h3, h4⟩ := h j hj; ⟨b, m, h1, h2, h3, h4.ext hx⟩
theorem Filled.snoc {w : World} {B : Nat} {vs : List Value} {L : List (List Int)} {k : Nat} (h : Filled w B vs L k) (hv : k < vs.length) {b m : Nat} (hb : B < b) (hm : (L[k]?.getD []).length = m) (hr : Row w b 3 (L[k]?.getD [])) :
    Filled (w.setCell ⟨B, k, none⟩ (.slice (some ⟨b, 0, none⟩) m m)) B (vs.set k (.slice (some ⟨b, 0, none⟩) m m)) L (k + 1) := by
  intro j hj
  by_cases hjk : j = k
  · subst hjk
    exact ⟨b, m, by simp [hv], hb, hm, hr.other (by simp; omega) _⟩
  · obtain ⟨b', m', h1, h2, h3, h4⟩ := h j (by omega)
    exact ⟨b', m', by rw [List.getElem?_set_ne (by omega)]; exact h1, h2, h3, h4.other (by simp; omega) _⟩

set_option maxHeartbeats 400000 in
theorem l_toIntSS {w : World} {a : Option Addr} {n cap : Nat} {L : List (List Int)} (h : IntSS w a n cap L) (hb : n ≤ 1099511627776) (hbb : ∀ l ∈ L, l.length ≤ 1099511627776) :
    Calls Try.prog 95 #[.slice a n cap] w fun e w' => ∃ b, e = .returned (.slice (some ⟨b, 0, none⟩) n n) ∧ On w.heap.size w' (fun W => IntSS W (some ⟨b, 0, none⟩) n n L) ∧ Ext w w' := by
  have hn := h.hcap
  have hm := h.hmax
  have hmk := mk_slices n hb
  have HL := Lib.hid h.hlen
  go_enter Try.func95, Try.ntmps95
  go_wp2
  go_loopw [4] (fun i wr => ∃ (k : Nat) (vs : List Value), k ≤ n ∧ i = .int .i64 k ∧ Hid (vs.length = n) ∧ VRow wr w.heap.size 34 vs ∧ Filled wr w.heap.size vs L k ∧ Ext w wr) (fun i _ => n - (intOf i).toNat)
  case atStart => exact ⟨0, List.replicate n (.slice none 0 0), Nat.zero_le _, rfl, Lib.hid (by simp), by unfold VRow; rw [heap_alloc_new]; simp, fun j hj => absurd hj (by omega), Ext.alloc _ _⟩
  case round =>
    obtain ⟨k, vs, hk, rfl, HV, hrow, hfill, hx⟩ := hrel
    by_cases hlt : k < n
    · have h' := h.ext hx
      obtain ⟨b, off, a', n', c', rfl, hc, hr⟩ := h'.at hlt
      have hlen : (L[k]?.getD []).length ≤ 1099511627776 := by
        have : k < L.length := by have := HL.out; omega
        simp only [this, List.getElem?_eq_getElem, Option.getD_some]
        exact hbb _ (List.getElem_mem _)
      have hn' : n' ≤ 1099511627776 := by rw [← hr.hlen]; exact hlen
      have HR := Lib.hid hr.hlen
      clear hlen
      go_wp2_with fail
      refine (l_toIntS hr hn').mono ?_
      rintro e w1 ⟨b1, rfl, hrow1, hb1, hx1⟩
      have hrow' := hrow.ext hx1
      have hlt1 := hrow.lt
      have hold : ∃ v, w1.cell? ⟨w.heap.size, k, none⟩ = some v := by
        rw [hrow'.cell k]
        exact ⟨vs[k]'(by have := HV.out; omega), List.getElem?_eq_getElem _⟩
      obtain ⟨v0, hold⟩ := hold
      have hfree := hrow'.free k
      go_wp2
      go_roundw
      case rel =>
        refine ⟨k + 1, vs.set k (.slice (some ⟨b1, 0, none⟩) n' n'), by omega, by go_num, Lib.hid (by simp [HV.out]), hrow'.set k _, ?_, (hx.trans hx1).setCell (Nat.le_refl _) _⟩
        exact (hfill.ext hx1).snoc (by have := HV.out; omega) (by omega) HR.out hrow1
      case measure => simp [intOf]; omega
    · go_wp2
      go_ret
      refine ⟨_, rfl, fun w2 hw2 => ⟨HL.out, Nat.le_refl _, by omega, fun k0 hk0 => ⟨_, 0, rfl, fun k1 hk1 => ?_⟩⟩, hx⟩
      obtain ⟨b, m, h1, h2, h3, h4⟩ := hfill k1 (by omega)
      have hrow2 : VRow w2 w.heap.size 34 vs := (hw2 _ (Nat.le_refl _) hrow.lt).trans hrow
      have h42 : Row w2 b 3 (L[k1]?.getD []) := (hw2 b (by omega) h4.lt).trans h4
      refine ⟨_, m, m, by rw [Nat.zero_add, hrow2.cell k1]; exact h1, h42.ints h3 (Nat.le_refl _) ?_⟩
      have : k1 < L.length := by have := HL.out; omega
      simp only [this, List.getElem?_eq_getElem, Option.getD_some] at h3
      have := hbb _ (List.getElem_mem this)
      omega

set_option maxHeartbeats 400000 in
theorem l_eqIntSS {w : World} {a a' : Option Addr} {n n' cap cap' : Nat} {L L' : List (List Int)} (h : IntSS w a n cap L) (h' : IntSS w a' n' cap' L') :
    Calls Try.prog 101 #[.slice a n cap, .slice a' n' cap'] w fun e w' => e = .returned (.bool (decide (L = L'))) ∧ Drew w w' := by
  have hn := h.hcap
  have hm := h.hmax
  have hn' := h'.hcap
  have hm' := h'.hmax
  have HL := Lib.hid h.hlen
  have HL' := Lib.hid h'.hlen
  by_cases hne : n = n'
  · subst hne
    go_enter Try.func101, Try.ntmps101
    go_wp2
    go_loopw [5] (fun i wr => ∃ k : Nat, k ≤ n ∧ i = .int .i64 k ∧ Hid (L.take k = L'.take k) ∧ Drew w wr) (fun i _ => n - (intOf i).toNat)
    case atStart => exact ⟨0, Nat.zero_le _, rfl, Lib.hid rfl, Drew.refl _⟩
    case round =>
      obtain ⟨k, hk, rfl, HT, hx⟩ := hrel
      by_cases hlt : k < n
      · obtain ⟨b, off, a1, n1, c1, rfl, hc, hr⟩ := (h.ext hx.ext).at hlt
        obtain ⟨b', off', a2, n2, c2, rfl, hc', hr'⟩ := (h'.ext hx.ext).at hlt
        have HE := Lib.hid fun m => quiet_drew (l_eqIntS (hr.drewN m) (hr'.drewN m))
        clear hr hr'
        cases hq : decide (L[k]?.getD [] = L'[k]?.getD [])
        · have HQ := Lib.hid hq
          rw [hq] at HE
          clear hq
          go_wp2
          go_quiet ((go_at_call 32; exact HE.out _))
          go_wp2
          go_ret
          refine ⟨ret_bool ?_, hx.trans ⟨_, rfl⟩⟩
          symm
          rw [decide_eq_false_iff_not]
          intro e
          have := HQ.out
          rw [decide_eq_false_iff_not] at this
          exact this (by rw [e])
        · have HQ := Lib.hid hq
          rw [hq] at HE
          clear hq
          go_wp2
          go_quiet ((go_at_call 32; exact HE.out _))
          go_wp2
          go_roundw
          case rel => exact ⟨k + 1, by omega, by go_num, Lib.hid (by rw [takeL_snoc (by have := HL.out; omega), takeL_snoc (by have := HL'.out; omega), HT.out, of_decide_eq_true HQ.out]), hx.trans ⟨_, rfl⟩⟩
          case measure => simp [intOf]; omega
      · go_wp2
        go_ret
        refine ⟨ret_bool ?_, hx⟩
        symm
        rw [decide_eq_true_eq]
        have := HT.out
        rwa [List.take_of_length_le (by have := HL.out; omega), List.take_of_length_le (by have := HL'.out; omega)] at this
  · have hne' : ((n : Int) != (n' : Int)) = true := by simp; omega
    have HN := Lib.hid hne
    clear hne
    go_enter Try.func101, Try.ntmps101
    go_wp2
    go_ret
    refine ⟨ret_bool ?_, Drew.refl _⟩
    symm
    rw [decide_eq_false_iff_not]
    intro e
    exact HN.out (by rw [← HL.out, ← HL'.out, e])

/-- What a function value that asks of a slice of ints answers, in every world grown from w. -/
def AsksS (P : Program) (w : World) (fid : FuncId) (ca : Array Value) (p : List Int → Bool) : Prop :=
  ∀ (l : List Int) (a : Option Addr) (n c : Nat) (w1 : World), Ext w w1 → Ints w1 a n c l → Calls P fid (#[.slice a n c] ++ ca) w1 fun e w2 => e = .returned (.bool (p l)) ∧ Ext w1 w2

set_option maxHeartbeats 400000 in
theorem indexFunc_intss {w : World} {a : Option Addr} {n cap : Nat} {L : List (List Int)} {fid : FuncId} {ca : Array Value} {p : List Int → Bool} (h : IntSS w a n cap L) (hg : IsGo Try.prog fid) (hf : AsksS Try.prog w fid ca p) :
    Calls Try.prog 142 #[.slice a n cap, .func (.func fid) #[] ca] w fun e w' => e = .returned (.int .i64 (indexF p L)) ∧ Ext w w' := by
  have hn := h.hcap
  have hm := h.hmax
  have hcf : ∀ (args : Array Value) (w : World), (callFunc fid args).run Try.prog w = .ok (.enter fid args) w := hg
  go_enter Try.func142, Try.ntmps142
  go_wp2
  go_loopw [8] (fun i wr => ∃ k : Nat, k ≤ n ∧ i = .int .i64 k ∧ Hid ((L.take k).all (fun x => !p x) = true) ∧ Ext w wr) (fun i _ => n - (intOf i).toNat)
  case atStart => exact ⟨0, Nat.zero_le _, rfl, Lib.hid rfl, Ext.refl _⟩
  case round =>
    obtain ⟨k, hk, rfl, HA, hx⟩ := hrel
    by_cases hlt : k < n
    · obtain ⟨b, off, a', n', c', rfl, hc, hr⟩ := (h.ext hx).at hlt
      have HL := Lib.hid h.hlen
      have HF := Lib.hid (hf (L[k]?.getD []) a' n' c' wr hx hr)
      clear hr
      by_cases hb : p (L[k]?.getD []) = true
      · have HB := Lib.hid hb
        go_wp2_with fail
        refine HF.out.mono ?_
        rintro e w2 ⟨rfl, hx2⟩
        go_wp2
        go_ret
        exact ⟨ret_int (indexF_at (by have := HL.out; omega) HA.out HB.out).symm, hx.trans (by assumption)⟩
      · have HB := Lib.hid hb
        simp only [Bool.not_eq_true] at hb
        go_wp2_with fail
        refine HF.out.mono ?_
        rintro e w2 ⟨rfl, hx2⟩
        go_wp2
        go_roundw
        case rel => exact ⟨k + 1, by omega, by go_num, Lib.hid (by rw [takeL_snoc (by have := HL.out; omega), List.all_append, HA.out]; simpa using HB.out), hx.trans (by assumption)⟩
        case measure => simp [intOf]; omega
    · have HL := Lib.hid h.hlen
      go_wp2
      go_ret
      refine ⟨ret_int ?_, hx⟩
      have := HA.out
      rw [List.take_of_length_le (by have := HL.out; omega)] at this
      exact (indexF_none this).symm

set_option maxHeartbeats 400000 in
theorem containsFunc_intss {w : World} {a : Option Addr} {n cap : Nat} {L : List (List Int)} {fid : FuncId} {ca : Array Value} {p : List Int → Bool} (h : IntSS w a n cap L) (hg : IsGo Try.prog fid) (hf : AsksS Try.prog w fid ca p) :
    Calls Try.prog 160 #[.slice a n cap, .func (.func fid) #[] ca] w fun e w' => e = .returned (.bool (L.any p)) ∧ Ext w w' := by
  have HC := Lib.hid (indexFunc_intss h hg hf)
  go_enter Try.func160, Try.ntmps160
  go_wp2_with fail
  refine HC.out.mono ?_
  rintro e w2 ⟨rfl, hx2⟩
  go_wp2
  all_goals go_ret; refine ⟨ret_bool ?_, hx2⟩; rw [← indexF_any]

end Go.Proofs.Ytokpmflhgehicaa
