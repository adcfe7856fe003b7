/- ProportionalShares on both sides. -/
import Derived.Test.YtokpmflhgehicaaOwnR
import Derived.Test.YtokpmflhgehicaaRatOps
import Derived.Test.YtokpmflhgehicaaClaims
namespace Go.Proofs.Ytokpmflhgehicaa
set_option linter.unusedVariables false
set_option linter.unusedSimpArgs false
set_option maxRecDepth 100000
open Go.RowKit

theorem foldW_bd : ∀ (l : List Int) (a : Int), (∀ c ∈ l, 0 ≤ c ∧ c ≤ 100) → 0 ≤ a → a + 100 * l.length ≤ 1000000 → 0 ≤ l.foldl (fun a x => wrap64 (a + x)) a ∧ l.foldl (fun a x => wrap64 (a + x)) a ≤ a + 100 * l.length
  | [], a, _, h0, h1 => by simp; omega
  | c :: l, a, h, h0, h1 => by
    have hc := h c (by simp)
    simp only [List.length_cons] at h1 ⊢
    have e : wrap64 (a + c) = a + c := by unfold wrap64; omega
    simp only [List.foldl_cons, e]
    have := foldW_bd l (a + c) (fun d hd => h d (by simp [hd])) (by omega) (by omega)
    omega
/-- What valid claims are. -/
theorem valid_claims {x : Int} {l : List Int} (h : validPair 0 x l = true) : 1 ≤ l.length ∧ l.length ≤ 5 ∧ 0 ≤ x ∧ x ≤ sumW l ∧ 0 ≤ sumW l ∧ sumW l ≤ 500 ∧ ∀ k, k < l.length → 0 ≤ l[k]?.getD 0 ∧ l[k]?.getD 0 ≤ 100 := by
  simp only [validPair, small, inB, Bool.and_eq_true, decide_eq_true_eq, List.all_eq_true] at h
  obtain ⟨⟨h1, h2⟩, h3⟩ := h
  have hb := foldW_bd l 0 h1 (by omega) (by omega)
  change 0 ≤ sumW l ∧ sumW l ≤ _ at hb
  refine ⟨by omega, by omega, h3.1, h3.2, hb.1, by omega, fun k hk => ?_⟩
  have := h1 (l[k]) (List.getElem_mem hk)
  simpa [hk] using this
def shareF (x : Int) (l : List Int) (c : Int) : Int × Int := (ratOf (x * c) (max 1 (sumW l))).1
def shareT (x : Int) (l : List Int) (k : Nat) : List (Int × Int) := if validPair 0 x l = true then (l.take k).map (shareF x l) else []
def shareL (x : Int) (l : List Int) : List (Int × Int) := shareT x l l.length
theorem shareT_not {x : Int} {l : List Int} (k : Nat) (h : validPair 0 x l = false) : shareT x l k = [] := by simp [shareT, h]
theorem shareT_zero (x : Int) (l : List Int) : shareT x l 0 = [] := by simp [shareT]
theorem shareT_succ {x : Int} {l : List Int} {k : Nat} (h : validPair 0 x l = true) (hk : k < l.length) : shareT x l (k + 1) = shareT x l k ++ [shareF x l (l[k]?.getD 0)] := by
  simp only [shareT, h, if_true]
  rw [take_snoc hk, List.map_append]
  rfl
theorem shareT_len (x : Int) (l : List Int) (k : Nat) : (shareT x l k).length ≤ k := by unfold shareT; split <;> simp; omega
theorem shareL_len (x : Int) (l : List Int) : (shareL x l).length ≤ 5 := by
  unfold shareL
  cases h : validPair 0 x l
  · rw [shareT_not _ h]; simp
  · have := (valid_claims h).2.1
    have := shareT_len x l l.length
    omega
/-- One share, as the walks meet it. -/
theorem share_ok {x : Int} {l : List Int} (h : validPair 0 x l = true) {k : Nat} (hk : k < l.length) : ∃ p q, ratOf (x * l[k]?.getD 0) (max 1 (sumW l)) = ((p, q), true) ∧ shareF x l (l[k]?.getD 0) = (p, q) := by
  obtain ⟨_, _, h0, h1, h2, h3, h4⟩ := valid_claims h
  obtain ⟨h5, h6⟩ := h4 k hk
  have hb := mul_bd (x := x) (y := l[k]?.getD 0) (by omega) (by omega) (by omega) (by omega)
  have hx : (x * l[k]?.getD 0).natAbs ≤ 500 * 100 := by rw [Int.natAbs_mul]; exact Nat.mul_le_mul (by omega) (by omega)
  have hok := ratOf_ok (n := x * l[k]?.getD 0) (d := max 1 (sumW l)) (by omega) (by omega) (by omega) (by omega)
  exact ⟨_, _, Prod.ext rfl hok, rfl⟩
theorem share_mul {x : Int} {l : List Int} (h : validPair 0 x l = true) {k : Nat} (hk : k < l.length) : in18 (x * l[k]?.getD 0) := by
  obtain ⟨_, _, h0, h1, h2, h3, h4⟩ := valid_claims h
  obtain ⟨h5, h6⟩ := h4 k hk
  exact mul_bd (by omega) (by omega) (by omega) (by omega)

set_option maxHeartbeats 2000000 in
theorem i_ProportionalShares {w : World} {x : Int} {a : Option Addr} {n cap : Nat} {l : List Int} (h : Ints w a n cap l) :
    Calls Try.prog 22 #[pair x a n cap] w fun e w' => (∃ v, e = .returned (.tuple #[v, .bool (validPair 0 x l)]) ∧ OwnR w' w.heap.size v (shareL x l)) ∧ Ext w w' := by
  have hi := h.alloc (.cells #[.int .i64 x, .slice a n cap] 40)
  have HX := Lib.hid (Ext.alloc w (.cells #[.int .i64 x, .slice a n cap] 40))
  have HL := Lib.hid h.hlen
  have HV := Lib.hid (i_IsValidClaims (x := x) hi)
  have hmax := h.hmax
  have hcap := h.hcap
  cases hv : validPair 0 x l
  · rw [hv] at HV
    have HVV := Lib.hid hv
    clear hv
    go_enter Try.func22, Try.ntmps22
    go_wp2_with fail
    refine HV.out.mono ?_
    rintro e w1 ⟨rfl, hx⟩
    go_wp2
    refine bodyPost_ret (v := .tuple #[.slice none 0 0, .bool false]) (by simp [results, Try.results22, go_sem]) rfl ⟨⟨_, rfl, by unfold shareL; rw [shareT_not _ HVV.out]; exact OwnR.nil _ _⟩, HX.out.trans hx⟩
  rw [hv] at HV
  have HVV := Lib.hid hv
  have hvc := valid_claims hv
  have hn5 : n ≤ 5 := by have := HL.out; omega
  obtain ⟨_, _, hx0, hxs, hs0, hs5, _⟩ := hvc
  have HI := Lib.hid hi
  obtain ⟨S, hS⟩ : ∃ S, S = sumW l := ⟨_, rfl⟩
  rw [← hS] at hs0 hs5 hxs
  have HS := Lib.hid hS
  clear hv h hi hS
  obtain ⟨M, hM⟩ : ∃ M, M = max 1 (sumW l) := ⟨_, rfl⟩
  have HM := Lib.hid hM
  have hMS : (S ≤ 1 ∧ M = 1) ∨ (¬ S ≤ 1 ∧ M = S) := by rw [hM, ← HS.out]; omega
  clear hM
  rcases hMS with ⟨hs1, hMv⟩ | ⟨hs1, hMv⟩
  all_goals
    have HMv := Lib.hid hMv
    clear hMv
    go_enter Try.func22, Try.ntmps22
    go_wp2_with fail
    refine HV.out.mono ?_
    rintro e w1 ⟨rfl, hx⟩
    have c1 : w1.cell? ⟨w.heap.size, 1, none⟩ = some (.slice a n cap) := hx.cellSome (by simp)
    have HX1 := Lib.hid hx
    have hsz1 : w.heap.size < w1.heap.size := World.block_lt_of_cell? _ _ c1
    have HO := Lib.hid (OwnR.made w1 (w.heap.size + 1) hsz1)
    have HI1 := Lib.hid (HI.out.ext hx)
    clear hx
    go_wp2_with fail
    refine (i_total HI1.out).mono ?_
    rw [← HS.out]
    rintro e w2 ⟨rfl, rfl⟩
    go_wp2
    go_loopw [5, 21] (fun o i wr => ∃ (k : Nat) (a1 : Option Addr) (n1 p1 : Nat), k ≤ n ∧ i = .int .i64 (k : Int) ∧ o = .slice a1 n1 p1 ∧ Hid (OwnR wr (w.heap.size + 1) (.slice a1 n1 p1) (shareT x l k)) ∧ Hid (Ext (w.alloc (.cells #[.int .i64 x, .slice a n cap] 40)) wr)) (fun _ i _ => n - (intOf i).toNat)
    case atStart => exact ⟨0, _, _, _, Nat.zero_le _, rfl, rfl, Lib.hid (by rw [shareT_zero]; exact HO.out), Lib.hid (HX1.out.trans (Ext.alloc _ _))⟩
    case round =>
      obtain ⟨k, a1, n1, p1, hk, rfl, rfl, HO2, HX2⟩ := hrel
      have c0 : wr.cell? ⟨w.heap.size, 0, none⟩ = some (.int .i64 x) := HX2.out.cellSome (by simp)
      have hsz2 : w.heap.size + 1 ≤ wr.heap.size := by have := HX2.out.size; simpa using this
      have HI2 := Lib.hid (HI.out.ext HX2.out)
      by_cases hlt : k < n
      · have hkl : k < l.length := by have := HL.out; omega
        obtain ⟨p, q, hpq, hsh⟩ := share_ok HVV.out hkl
        obtain ⟨e1, e2⟩ := kwrap_in (share_mul HVV.out hkl)
        have hss := shareT_succ HVV.out hkl
        obtain ⟨b, off, he, hc⟩ := HI2.out.at hlt
        obtain ⟨y, hy⟩ : ∃ y, y = l[k]?.getD 0 := ⟨_, rfl⟩
        rw [← hy] at hpq hsh e1 e2 hc hss
        rw [← HM.out, HMv.out] at hpq
        have HPQ := Lib.hid hpq
        have HSH := Lib.hid hsh
        have HSS := Lib.hid hss
        clear hkl hpq hsh hy hss
        subst he
        go_wp2_with fail
        refine (i_RatOf _ _ _).mono ?_
        rw [HPQ.out]
        rintro e w3 ⟨rfl, hx3⟩
        have X3 := Lib.hid (HX2.out.trans hx3)
        have HO3 := Lib.hid (HO2.out.ext hx3)
        have hsz3 := hx3.size
        clear hx3
        go_wp2_with (first
          | (at_builtin; refine append_rats rfl _ _ rfl (w.heap.size + 1) (.slice a1 n1 p1) _ rfl ((HO3.out.ext (Ext.alloc _ _)).ext (Ext.alloc _ _)) _ 1 _ [(p, q)] rfl (Rats.one' _ _ _ _ _ (by simp)) (by have := shareT_len x l k; omega) (by simp; omega) ?_; intro v2 w4 ho hg hnear; obtain ⟨a2, n2, c2, rfl, HN2⟩ := ho.var; have HO4 := Lib.hid ho; have HG4 := Lib.hid hg; clear ho hg hnear))
        go_roundw
        case rel =>
          refine ⟨k + 1, a2, n2, c2, by omega, by go_num, rfl, Lib.hid ?_, Lib.hid ?_⟩
          · rw [HSS.out, HSH.out]; exact HO4.out
          · exact ext_grown (X3.out.trans ((Ext.alloc _ _).trans (Ext.alloc _ _))) HG4.out (fun j hj => by have := (HO3.out.lt j hj).1; simpa using this)
        case measure => simp [intOf]; omega
      · go_wp2
        have hkn : k = n := by omega
        subst hkn
        refine bodyPost_ret (v := .tuple #[.slice a1 n1 p1, .bool true]) (by simp [results, Try.results22, go_sem]) rfl ⟨⟨_, rfl, by unfold shareL; rw [HL.out]; exact HO2.out.mono (by omega)⟩, HX.out.trans HX2.out⟩

theorem s_max1 (y : Int) (w : World) : Calls Try.prog 84 #[.int .i64 1, .int .i64 y] w fun e w' => e = .returned (.int .i64 (max 1 y)) ∧ w = w' := by
  by_cases h : y < 1
  all_goals
    have H := Lib.hid h
    go_enter Try.func84, Try.ntmps84
    go_wp2_with fail
    go_ret
    exact ⟨ret_int (by have := H.out; omega), rfl⟩

set_option maxHeartbeats 4000000 in
theorem s_ProportionalShares {w : World} {x : Int} {a : Option Addr} {n cap : Nat} {l : List Int} (h : Ints w a n cap l) :
    Calls Try.prog 20 #[pair x a n cap] w fun e w' => (∃ v, e = .returned (.tuple #[v, .bool (validPair 0 x l)]) ∧ OwnR w' w.heap.size v (shareL x l)) ∧ Ext w w' := by
  have hi := h.alloc (.cells #[.int .i64 x, .slice a n cap] 40)
  have HX := Lib.hid (Ext.alloc w (.cells #[.int .i64 x, .slice a n cap] 40))
  have HL := Lib.hid h.hlen
  have HI := Lib.hid hi
  have HO := Lib.hid (OwnR.made (w.alloc (.cells #[.int .i64 x, .slice a n cap] 40)) (w.heap.size + 1) (by simp))
  have hmax := h.hmax
  have hcap := h.hcap
  clear h hi
  cases hv : validPair 0 x l
  · have HVV := Lib.hid hv
    clear hv
    go_enter Try.func20, Try.ntmps20
    go_wp2
    go_loopw [4, 5] (fun o i wr => ∃ (a1 : Option Addr) (n1 p1 : Nat), i = .int .i64 0 ∧ o = .slice a1 n1 p1 ∧ Hid (OwnR wr (w.heap.size + 1) (.slice a1 n1 p1) []) ∧ Hid (Ext (w.alloc (.cells #[.int .i64 x, .slice a n cap] 40)) wr)) (fun _ i _ => n - (intOf i).toNat)
    case atStart => exact ⟨_, _, _, rfl, rfl, Lib.hid (by simpa using HO.out), Lib.hid (Ext.alloc _ _)⟩
    case round =>
      obtain ⟨a1, n1, p1, rfl, rfl, HO2, HX2⟩ := hrel
      have c0 : wr.cell? ⟨w.heap.size, 0, none⟩ = some (.int .i64 x) := HX2.out.cellSome (by simp)
      have c1 : wr.cell? ⟨w.heap.size, 1, none⟩ = some (.slice a n cap) := HX2.out.cellSome (by simp)
      have HI2 := Lib.hid (HI.out.ext HX2.out)
      have HV := Lib.hid (s_IsValidClaims (x := x) HI2.out)
      rw [HVV.out] at HV
      by_cases hlt : (0 : Int) < (n : Int)
      · go_wp2_with fail
        refine HV.out.mono ?_
        rintro e w2 ⟨rfl, hx2⟩
        have HI3 := Lib.hid (HI2.out.ext hx2)
        have HX3 := Lib.hid (HX2.out.trans hx2)
        have HO3 := Lib.hid (HO2.out.ext hx2)
        replace c0 := hx2.cellSome c0
        replace c1 := hx2.cellSome c1
        have HV := Lib.hid (s_IsValidClaims (x := x) HI3.out)
        rw [HVV.out] at HV
        clear hx2
        go_wp2_with fail
        refine HV.out.mono ?_
        rintro e w3 ⟨rfl, hx3⟩
        go_wp2
        refine bodyPost_ret (v := .tuple #[.slice a1 n1 p1, .bool false]) (by simp [results, Try.results20, go_sem]) rfl ⟨⟨_, rfl, by unfold shareL; rw [shareT_not _ HVV.out]; exact (HO3.out.ext hx3).mono (by omega)⟩, HX.out.trans (HX3.out.trans hx3)⟩
      · go_wp2_with fail
        refine HV.out.mono ?_
        rintro e w3 ⟨rfl, hx3⟩
        go_wp2
        refine bodyPost_ret (v := .tuple #[.slice a1 n1 p1, .bool false]) (by simp [results, Try.results20, go_sem]) rfl ⟨⟨_, rfl, by unfold shareL; rw [shareT_not _ HVV.out]; exact (HO2.out.ext hx3).mono (by omega)⟩, HX.out.trans (HX2.out.trans hx3)⟩
  have HVV := Lib.hid hv
  have hvc := valid_claims hv
  have hn5 : n ≤ 5 := by have := HL.out; omega
  obtain ⟨_, _, hx0, hxs, hs0, hs5, _⟩ := hvc
  obtain ⟨S, hS⟩ : ∃ S, S = sumW l := ⟨_, rfl⟩
  rw [← hS] at hs0 hs5 hxs
  have HS := Lib.hid hS
  clear hv hS
  go_enter Try.func20, Try.ntmps20
  go_wp2
  go_loopw [4, 5] (fun o i wr => ∃ (k : Nat) (a1 : Option Addr) (n1 p1 : Nat), k ≤ n ∧ i = .int .i64 (k : Int) ∧ o = .slice a1 n1 p1 ∧ Hid (OwnR wr (w.heap.size + 1) (.slice a1 n1 p1) (shareT x l k)) ∧ Hid (Ext (w.alloc (.cells #[.int .i64 x, .slice a n cap] 40)) wr)) (fun _ i _ => n - (intOf i).toNat)
  case atStart => exact ⟨0, _, _, _, Nat.zero_le _, rfl, rfl, Lib.hid (by rw [shareT_zero]; simpa using HO.out), Lib.hid (Ext.alloc _ _)⟩
  case round =>
    obtain ⟨k, a1, n1, p1, hk, rfl, rfl, HO2, HX2⟩ := hrel
    have c0 : wr.cell? ⟨w.heap.size, 0, none⟩ = some (.int .i64 x) := HX2.out.cellSome (by simp)
    have c1 : wr.cell? ⟨w.heap.size, 1, none⟩ = some (.slice a n cap) := HX2.out.cellSome (by simp)
    have HI2 := Lib.hid (HI.out.ext HX2.out)
    have HV := Lib.hid (s_IsValidClaims (x := x) HI2.out)
    rw [HVV.out] at HV
    by_cases hlt : k < n
    · have hkl : k < l.length := by have := HL.out; omega
      obtain ⟨p, q, hpq, hsh⟩ := share_ok HVV.out hkl
      obtain ⟨e1, e2⟩ := kwrap_in (share_mul HVV.out hkl)
      have hss := shareT_succ HVV.out hkl
      obtain ⟨b, off, he, hc⟩ := HI2.out.at hlt
      obtain ⟨y, hy⟩ : ∃ y, y = l[k]?.getD 0 := ⟨_, rfl⟩
      rw [← hy] at hpq hsh e1 e2 hc hss
      rw [← HS.out] at hpq
      have HPQ := Lib.hid hpq
      have HSH := Lib.hid hsh
      have HSS := Lib.hid hss
      clear hkl hpq hsh hy hss
      subst he
      go_wp2_with fail
      refine HV.out.mono ?_
      rintro e w2 ⟨rfl, hx2⟩
      have HI3 := Lib.hid (HI2.out.ext hx2)
      have X2 := Lib.hid (HX2.out.trans hx2)
      have HO3 := Lib.hid (HO2.out.ext hx2)
      have hsz2 : w.heap.size + 1 ≤ w2.heap.size := by have := X2.out.size; simpa using this
      replace c0 := hx2.cellSome c0
      replace c1 := hx2.cellSome c1
      replace hc := hx2.cellSome hc
      have hltw : w.heap.size < w2.heap.size := World.block_lt_of_cell? _ _ c0
      have hltb : b < w2.heap.size := World.block_lt_of_cell? _ _ hc
      clear hx2
      have hk2 : Ext w2 w2.drew := Ext.drew w2
      go_wp2_with fail
      go_region_held3 (fun w' => w'.cell? ⟨w.heap.size, 0, none⟩ = some (.int .i64 x) ∧ w'.cell? ⟨w.heap.size, 1, none⟩ = some (.slice (some ⟨b, off, none⟩) n cap) ∧ w'.cell? ⟨b, off + k, none⟩ = some (.int .i64 y) ∧ Ext w2 w')
        (first
          | exact ⟨hk2.cellSome c0, hk2.cellSome c1, hk2.cellSome hc, hk2⟩
          | exact (fun h => ⟨Ext.cellSome h c0, Ext.cellSome h c1, Ext.cellSome h hc, h⟩) (hk2.trans (Ext.alloc _ _))
          | exact (fun h => ⟨Ext.cellSome h c0, Ext.cellSome h c1, Ext.cellSome h hc, h⟩) ((hk2.setCell (by simp) _).setCell (by simp) _)
          | exact (fun h => ⟨Ext.cellSome h c0, Ext.cellSome h c1, Ext.cellSome h hc, h⟩) (((hk2.trans (Ext.alloc _ _)).setCell (by simp) _).setCell (by simp) _))
        (first
          | (go_at_call 85; refine (s_l18Sum (by first | exact HI3.out.ext hk2 | exact HI3.out.ext (hk2.trans (Ext.alloc _ _)))).mono ?_; rw [← HS.out]; rintro e w' ⟨rfl, rfl⟩)
          | (go_at_call 84; refine (s_max1 _ _).mono ?_; rintro e w' ⟨rfl, rfl⟩)
          | (go_at_call 83; refine (s_RatOf _ _ _).mono ?_; rw [HPQ.out]; rintro e w3 ⟨rfl, hx3⟩; first | (have hk2 := hk2.trans hx3) | (have hk2 := (hk2.trans (Ext.alloc _ _)).trans hx3); try (have hB : w3.heap[w2.heap.size]? = some (.cells #[.int .i64 0, .int .i64 0] 76 (0, 0)) := (hx3.block _ (by simp)).trans (heap_alloc_new w2 (.cells #[.int .i64 0, .int .i64 0] 76)); have b0 : w3.cell? ⟨w2.heap.size, 0, none⟩ = some (.int .i64 0) := (by rw [cell_of_row _ _ _ _ _ _ hB]; rfl); have b1 : w3.cell? ⟨w2.heap.size, 1, none⟩ = some (.int .i64 0) := (by rw [cell_of_row _ _ _ _ _ _ hB]; rfl); have fb : ∀ o, w3.frozen? ⟨w2.heap.size, o, none⟩ = false := (fun o => frozen_of_row _ _ _ _ _ hB); clear hB)))
      all_goals
        have hE := (‹_ ∧ _ ∧ _ ∧ Ext w2 _›).2.2.2
        have HE := Lib.hid hE
        have HO4 := Lib.hid (HO3.out.ext hE)
        have hszE := hE.size
        clear hE
        go_wp2_with (first
          | (at_builtin; refine append_rats rfl _ _ rfl (w.heap.size + 1) (.slice a1 n1 p1) _ rfl (HO4.out.ext (Ext.alloc _ _)) _ 1 _ [(p, q)] rfl (Rats.one' _ _ _ _ _ (by simp)) (by have := shareT_len x l k; omega) (by simp at hszE ⊢; omega) ?_; intro v2 w4 ho hg hnear; obtain ⟨a2, n2, c2, rfl, HN2⟩ := ho.var; have HO5 := Lib.hid ho; have HG5 := Lib.hid hg; clear ho hg hnear))
        go_roundw
        case rel =>
          refine ⟨k + 1, a2, n2, c2, by omega, by go_num, rfl, Lib.hid ?_, Lib.hid ?_⟩
          · rw [HSS.out, HSH.out]; exact HO5.out
          · exact ext_grown (X2.out.trans (HE.out.trans (Ext.alloc _ _))) HG5.out (fun j hj => by have := (HO4.out.lt j hj).1; simpa using this)
        case measure => simp [intOf]; omega
    · go_wp2_with fail
      refine HV.out.mono ?_
      rintro e w3 ⟨rfl, hx3⟩
      go_wp2
      have hkn : k = n := by omega
      subst hkn
      refine bodyPost_ret (v := .tuple #[.slice a1 n1 p1, .bool true]) (by simp [results, Try.results20, go_sem]) rfl ⟨⟨_, rfl, by unfold shareL; rw [HL.out]; exact (HO2.out.ext hx3).mono (by omega)⟩, HX.out.trans (HX2.out.trans hx3)⟩

end Go.Proofs.Ytokpmflhgehicaa
