import Derived.Test.YtgohdmnbnhehnaaCvAllG13
import Derived.Test.YtgohdmnbnhehnaaCvAllG12
import Derived.Test.YtgohdmnbnhehnaaCvAllG8
import Derived.OwnWalk
namespace Go.Proofs.Ytgohdmnbnhehnaa
set_option linter.unusedVariables false
open Go.RowKit
def convF (V : List Int) (a b : Nat) : Bool := decide (V[a ||| b]?.getD 0 + V[a &&& b]?.getD 0 < V[a]?.getD 0 + V[b]?.getD 0)
def convOk (p : Int) (V : List Int) : Bool := gameOk p V && ((List.range V.length).all fun a => (List.range V.length).all fun b => !convF V a b)
theorem convOk_at {p : Int} {V : List Int} (h : convOk p V = true) {a b : Nat} (ha : a < V.length) (hb : b < V.length) : V[a]?.getD 0 + V[b]?.getD 0 ≤ V[a ||| b]?.getD 0 + V[a &&& b]?.getD 0 := by
  unfold convOk at h
  rw [Bool.and_eq_true] at h
  have h1 := List.all_eq_true.1 (List.all_eq_true.1 h.2 a (List.mem_range.2 ha)) b (List.mem_range.2 hb)
  unfold convF at h1
  simp only [Bool.not_eq_true', decide_eq_false_iff_not] at h1
  omega
def sumM (F : Nat → Int) (s : Nat) : Nat → Int
  | 0 => 0
  | m + 1 => sumM F s m + if bit (s : Int) m = true then F m else 0
theorem sumM_congr {F G : Nat → Int} {s : Nat} : ∀ {m : Nat}, (∀ k, k < m → F k = G k) → sumM F s m = sumM G s m
  | 0, _ => rfl
  | m + 1, h => by unfold sumM; rw [sumM_congr fun k hk => h k (by omega), h m (by omega)]
theorem sumM_succ (F : Nat → Int) (s m : Nat) : sumM F s (m + 1) = sumM F s m + if bit (s : Int) m = true then F m else 0 := rfl
theorem sumM_set (l : List Int) (p : Nat) (x : Int) (s : Nat) (hp : p < l.length) : ∀ m, sumM (fun j => (l.set p x)[j]?.getD 0) s m = sumM (fun j => l[j]?.getD 0) s m + if p < m ∧ bit (s : Int) p = true then x - l[p]?.getD 0 else 0
  | 0 => by simp [sumM]
  | m + 1 => by
    rw [sumM_succ, sumM_succ, sumM_set l p x s hp m]
    by_cases e : p = m
    · subst e
      rw [List.getElem?_set_self hp, if_neg (fun h => absurd h.1 (Nat.lt_irrefl p))]
      by_cases hb : bit (s : Int) p = true
      · rw [if_pos hb, if_pos hb, if_pos ⟨Nat.lt_succ_self p, hb⟩]; simp only [Option.getD_some]; omega
      · rw [if_neg hb, if_neg hb, if_neg (fun h => hb h.2)]
    · rw [List.getElem?_set_ne e]
      by_cases hm : p < m
      · by_cases hb : bit (s : Int) p = true
        · rw [if_pos (show p < m ∧ bit (s : Int) p = true from ⟨hm, hb⟩), if_pos (show p < m + 1 ∧ bit (s : Int) p = true from ⟨Nat.lt_succ_of_lt hm, hb⟩)]; omega
        · rw [if_neg (show ¬ (p < m ∧ bit (s : Int) p = true) from fun h => hb h.2), if_neg (show ¬ (p < m + 1 ∧ bit (s : Int) p = true) from fun h => hb h.2)]; omega
      · rw [if_neg (show ¬ (p < m ∧ bit (s : Int) p = true) from fun h => hm h.1), if_neg (show ¬ (p < m + 1 ∧ bit (s : Int) p = true) from fun h => absurd h.1 (by omega))]; omega
theorem sumM_zero (s : Nat) : ∀ m, sumM (fun _ => 0) s m = 0
  | 0 => rfl
  | m + 1 => by unfold sumM; rw [sumM_zero s m]; simp
theorem sumM_add (F G : Nat → Int) (s : Nat) : ∀ m, sumM (fun k => F k + G k) s m = sumM F s m + sumM G s m
  | 0 => rfl
  | m + 1 => by unfold sumM; rw [sumM_add F G s m]; split <;> omega
theorem cap_in : ∀ S s : Fin 32, ∀ k : Fin 5, bit (s.val : Int) k.val = false → bit (S.val : Int) k.val = true → ((S.val &&& (s.val + cN k.val)) ||| s.val = s.val + cN k.val ∧ (S.val &&& (s.val + cN k.val)) &&& s.val = S.val &&& s.val) := by decide +kernel
theorem cap_out : ∀ S s : Fin 32, ∀ k : Fin 5, bit (s.val : Int) k.val = false → bit (S.val : Int) k.val = false → S.val &&& (s.val + cN k.val) = S.val &&& s.val := by decide +kernel
theorem pop_step : ∀ s : Fin 32, ∀ k : Fin 5, bit (s.val : Int) k.val = false → popN (s.val + cN k.val) = popN s.val + 1 := by decide +kernel
theorem pop_full : ∀ n : Fin 6, ∀ s : Fin 32, s.val < cN n.val → popN s.val = n.val → s.val = cN n.val - 1 := by decide +kernel
theorem all_bit : ∀ n : Fin 6, ∀ k : Fin 5, k.val < n.val → bit ((cN n.val - 1 : Nat) : Int) k.val = true := by decide +kernel
theorem cap_all : ∀ n : Fin 6, ∀ s : Fin 32, s.val < cN n.val → s.val &&& (cN n.val - 1) = s.val := by decide +kernel
theorem ord_fresh {n : Nat} (hn : n ≤ 5) {ord : List Int} {k : Nat} (hk : k < ord.length) (h : ordTo (n : Int) ord (k + 1) = true) : bit (sN ord k : Int) (pos ord k) = false := by
  have hs := ord_step hn hk h
  have h0 := ordTo_less h (Nat.le_succ k)
  rw [ordTo_succ] at h
  simp only [Bool.and_eq_true, Bool.not_eq_true'] at h
  rw [(ord_inv hn k (by omega) h0).2 _ (by omega), ← hs.1]; exact h.2.2
theorem ord_pop {n : Nat} (hn : n ≤ 5) {ord : List Int} : ∀ k, k ≤ ord.length → ordTo (n : Int) ord k = true → popN (sN ord k) = k
  | 0, _, _ => by simp [sN, popN, bit]
  | k + 1, hk, h => by
    have hs := ord_step hn (by omega) h
    have hc := cN_le n hn
    have := pop_step ⟨sN ord k, by omega⟩ ⟨pos ord k, by omega⟩ (ord_fresh hn (by omega) h)
    simp only at this
    show popN (sN ord k + cN (pos ord k)) = _
    rw [this, ord_pop hn k (by omega) (ordTo_less h (Nat.le_succ k))]
theorem ord_full {n : Nat} (hn : n ≤ 5) {ord : List Int} (hl : ord.length = n) (h : ordTo (n : Int) ord n = true) : sN ord n = cN n - 1 := by
  have hi := (ord_inv hn n (by omega) h).1
  have hc := cN_le n hn
  exact pop_full ⟨n, by omega⟩ ⟨sN ord n, by omega⟩ hi (ord_pop hn n (by omega) h)
theorem conv_marg {n : Nat} {V : List Int} (h : convOk (n : Int) V = true) {ord : List Int} (hl : ord.length = n) (ho : ordTo (n : Int) ord n = true) {S : Nat} (hS : S < cN n) :
    ∀ m, m ≤ n → V[S &&& sN ord m]?.getD 0 ≤ sumM (fun j => (mvL n V ord m)[j]?.getD 0) S 5 ∧ sumM (fun j => (mvL n V ord m)[j]?.getD 0) (cN n - 1) 5 = V[sN ord m]?.getD 0 ∧ ∀ j, j < 5 → bit (sN ord m : Int) j = false → (mvL n V ord m)[j]?.getD 0 = 0 := by
  have hg : gameOk (n : Int) V = true := by unfold convOk at h; rw [Bool.and_eq_true] at h; exact h.1
  obtain ⟨n', hn', h1, h5, hlen, h0, hV⟩ := gameOk_len hg
  obtain rfl : n = n' := by omega
  have hc := cN_le n h5
  intro m
  induction m with
  | zero =>
    intro _
    have hz : ∀ j : Nat, (mvL n V ord 0)[j]?.getD 0 = 0 := fun j => by
      unfold mvL
      by_cases hj : j < n
      · simp [hj]
      · rw [List.getElem?_eq_none (by simp; omega)]; rfl
    have e : ∀ s, sumM (fun j => (mvL n V ord 0)[j]?.getD 0) s 5 = 0 := fun s => by rw [sumM_congr fun k _ => hz k, sumM_zero]
    rw [e, e]
    refine ⟨?_, ?_, fun j _ _ => hz j⟩
    · show V[S &&& 0]?.getD 0 ≤ 0
      rw [Nat.and_zero, h0]; omega
    · show 0 = V[0]?.getD 0
      rw [h0]
  | succ m ih =>
    intro hm
    obtain ⟨i1, i2, i3⟩ := ih (by omega)
    have hom := ordTo_less ho hm
    have hs := ord_step h5 (by omega) hom
    have hf := ord_fresh h5 (by omega) hom
    obtain ⟨hp, hpn, hs0, hs1, _, _⟩ := hs
    have hml := mvL_len n V ord m
    have hz := i3 (pos ord m) (by omega) hf
    have hset := fun s => sumM_set (mvL n V ord m) (pos ord m) (V[sN ord (m + 1)]?.getD 0 - V[sN ord m]?.getD 0) s (by omega) 5
    rw [hz] at hset
    have hSl : S < 32 := by omega
    refine ⟨?_, ?_, fun j hj hb => ?_⟩
    · show _ ≤ sumM (fun j => ((mvL n V ord m).set (pos ord m) (V[sN ord (m + 1)]?.getD 0 - V[sN ord m]?.getD 0))[j]?.getD 0) S 5
      rw [hset]
      cases hb : bit (S : Int) (pos ord m)
      · rw [if_neg (by simp)]
        have := cap_out ⟨S, hSl⟩ ⟨sN ord m, by omega⟩ ⟨pos ord m, by omega⟩ hf hb
        simp only at this
        show V[S &&& (sN ord m + cN (pos ord m))]?.getD 0 ≤ _
        rw [this]; omega
      · rw [if_pos ⟨by omega, rfl⟩]
        have := cap_in ⟨S, hSl⟩ ⟨sN ord m, by omega⟩ ⟨pos ord m, by omega⟩ hf hb
        simp only at this
        have hle : S &&& sN ord (m + 1) ≤ S := Nat.and_le_left
        have hcv := convOk_at h (a := S &&& sN ord (m + 1)) (b := sN ord m) (by omega) (by omega)
        rw [show (S &&& sN ord (m + 1)) ||| sN ord m = sN ord (m + 1) from this.1, show (S &&& sN ord (m + 1)) &&& sN ord m = S &&& sN ord m from this.2] at hcv
        omega
    · show sumM (fun j => ((mvL n V ord m).set (pos ord m) (V[sN ord (m + 1)]?.getD 0 - V[sN ord m]?.getD 0))[j]?.getD 0) (cN n - 1) 5 = _
      rw [hset, i2, if_pos ⟨by omega, all_bit ⟨n, by omega⟩ ⟨pos ord m, by omega⟩ hpn⟩]
      omega
    · have hj2 := (join n _ _ h5 hs0 hpn hf).2.2 j hj
      have hb2 : bit ((sN ord m + cN (pos ord m) : Nat) : Int) j = false := hb
      rw [hj2] at hb2
      simp only [Bool.or_eq_false_iff, decide_eq_false_iff_not] at hb2
      show ((mvL n V ord m).set (pos ord m) _)[j]?.getD 0 = 0
      rw [List.getElem?_set_ne (Ne.symm hb2.2)]
      exact i3 j hj hb2.1
theorem conv_ord {n : Nat} {V : List Int} (h : convOk (n : Int) V = true) {ord : List Int} (hl : ord.length = n) (ho : ordTo (n : Int) ord n = true) {S : Nat} (hS : S < cN n) :
    V[S]?.getD 0 ≤ sumM (fun j => (mvL n V ord n)[j]?.getD 0) S 5 ∧ sumM (fun j => (mvL n V ord n)[j]?.getD 0) (cN n - 1) 5 = V[cN n - 1]?.getD 0 := by
  have hg : gameOk (n : Int) V = true := by unfold convOk at h; rw [Bool.and_eq_true] at h; exact h.1
  obtain ⟨n', hn', h1, h5, hlen, h0, hV⟩ := gameOk_len hg
  obtain rfl : n = n' := by omega
  have hc := cN_le n h5
  obtain ⟨k1, k2, _⟩ := conv_marg h hl ho hS n (Nat.le_refl _)
  rw [ord_full h5 hl ho] at k1 k2
  have := cap_all ⟨n, by omega⟩ ⟨S, by omega⟩ hS
  simp only at this
  rw [this] at k1
  exact ⟨k1, k2⟩
theorem share_sub {X : List (Int × Int)} {n : Nat} {D : Int} {S : Nat → Int} (hD : 1 ≤ D ∧ D ≤ 120) (hn : n ≤ 5) (hX : X.length = n) (hF : ∀ k, k < n → Fr (X[k]?.getD (0, 0)) (S k) D) (hS : ∀ k, -32000000 ≤ S k ∧ S k ≤ 32000000) {s : Nat} (hs : s < cN n) :
    ∀ j, j ≤ 5 → ∃ r, payT X (memI (s : Int) j) (0, 1) = some r ∧ Fr r (sumM S s j) D ∧ (sumM S s j).natAbs ≤ j * 32000000
  | 0, _ => ⟨(0, 1), rfl, (Fr.int 0 (by omega) (by omega)).move (by omega) (by simp [sumM]), by simp [sumM]⟩
  | j + 1, hj => by
    obtain ⟨r, h1, h2, h3⟩ := share_sub hD hn hX hF hS hs j (by omega)
    rw [memI_succ, payT_append, h1]
    rw [sumM_succ]
    obtain ⟨M, hM⟩ : ∃ M, M = (j + 1) * 32000000 := ⟨_, rfl⟩
    rw [← hM]
    cases hb : bit (s : Int) j
    · have e1 : (if false = true then S j else 0) = (0 : Int) := rfl
      rw [e1, Int.add_zero]
      exact ⟨r, rfl, h2, by omega⟩
    · have hjn : j < n := by
        rcases Nat.lt_or_ge j n with h | h
        · exact h
        · rw [bit_big n s j hn hs h (by omega)] at hb; cases hb
      have h4 := hF j hjn
      have h5 := hS j
      obtain ⟨T, hT⟩ : ∃ T, T = sumM S s j := ⟨_, rfl⟩
      rw [← hT] at h2 h3 ⊢
      have b1 := h2.size
      have b2 := h4.size
      have hj5 : j * 32000000 ≤ 160000000 := by omega
      have m1 := small_mul (x := r.1) (y := (X[j]?.getD (0, 0)).2) (a := 160000000) (b := 120) (by omega) (by have := (valR_bd h4.1).1; omega)
      have m2 := small_mul (x := (X[j]?.getD (0, 0)).1) (y := r.2) (a := 160000000) (b := 120) (by omega) (by have := (valR_bd h2.1).1; omega)
      obtain ⟨r', ha, hf⟩ := h2.add h4 (z := T + S j) (F := D) (by omega) (by omega) (by omega) (by omega) (by grind)
      refine ⟨r', ?_, by simpa using hf, by simp only [if_true]; omega⟩
      simp only [if_true, Option.bind_some, payT]
      rw [if_neg (by rw [hX]; omega), Int.toNat_natCast, ha, if_pos rfl]
theorem core_of {n : Nat} {V : List Int} (hg : gameOk (n : Int) V = true) {X : List (Int × Int)} {D : Int} {S : Nat → Int} (hD : 1 ≤ D ∧ D ≤ 120) (hX : X.length = n) (hF : ∀ k, k < n → Fr (X[k]?.getD (0, 0)) (S k) D) (hS : ∀ k, -32000000 ≤ S k ∧ S k ≤ 32000000)
    (hall : sumM S (cN n - 1) 5 = V[cN n - 1]?.getD 0 * D) (hge : ∀ s, s < cN n → V[s]?.getD 0 * D ≤ sumM S s 5) : coreS (n : Int) V X = true := by
  obtain ⟨n', hn', h1, h5, hlen, h0, hV⟩ := gameOk_len hg
  obtain rfl : n = n' := by omega
  have hc := cN_le n h5
  have hpay : payP (n : Int) V X = true := by
    have hav : allV X = true := List.all_eq_true.2 fun x hx => by
      obtain ⟨k, hk, rfl⟩ := List.getElem_of_mem hx
      have := (hF k (by omega)).1
      rw [List.getElem?_eq_getElem hk] at this
      exact this
    obtain ⟨r, r1, r2, r3⟩ := share_sub hD h5 hX hF hS (s := cN n - 1) (by omega) 5 (Nat.le_refl _)
    have hgr := grandV_ok hg
    rw [hlen] at hgr
    have hgb := getD_bd hV (cN n - 1)
    have hr : r = (grandV (n : Int) V, 1) := by
      rw [hgr]
      exact r2.eq (Fr.int _ (by omega) (by omega)) (by rw [hall, Int.mul_one])
    unfold payP
    rw [hg, hav, hlen]
    simp only [Bool.true_and, Bool.and_eq_true, decide_eq_true_eq]
    refine ⟨by omega, ?_⟩
    unfold shareP
    rw [r1, hr]
  unfold coreS
  have hex : ∀ k, k < V.length - 2 → ∃ e, excS V X (1 + k) = some e ∧ e.1 ≤ 0 := fun k hk => by
    obtain ⟨r, r1, r2, r3⟩ := share_sub hD h5 hX hF hS (s := 1 + k) (by omega) 5 (Nat.le_refl _)
    have hv := getD_bd hV (1 + k)
    obtain ⟨v, hv'⟩ : ∃ v, v = V[1 + k]?.getD 0 := ⟨_, rfl⟩
    have hle := hge (1 + k) (by omega)
    rw [← hv'] at hv hle
    have b := r2.size
    have vb := valR_bd r2.1
    have m1 := small_mul (x := v) (y := r.2) (a := 500) (b := 120) (by omega) (by omega)
    have m2 := small_mul (x := v) (y := D) (a := 500) (b := 120) (by omega) (by omega)
    obtain ⟨e, he, hf⟩ := (Fr.int v (by omega) (by omega)).sub r2 (z := v * D - sumM S (1 + k) 5) (F := D) (by omega) (by omega) (by omega) (by simp only [Int.mul_one]; omega) (by grind)
    refine ⟨e, ?_, ?_⟩
    · unfold excS shareP
      rw [r1]
      show excR (V[1 + k]?.getD 0) r = some e
      unfold excR
      rw [← hv', he, if_pos rfl]
    · obtain ⟨f1, f2, f3⟩ := hf
      have fb := valR_bd f1
      rcases Int.lt_or_le 0 e.1 with hpos | hneg
      · have p1 : 0 < e.1 * D := Int.mul_pos hpos f2
        have p2 : (v * D - sumM S (1 + k) 5) * e.2 ≤ 0 := Int.mul_nonpos_of_nonpos_of_nonneg (by omega) (by omega)
        omega
      · exact hneg
  have hall2 : allX (n : Int) V X = some ((List.range (V.length - 2)).map fun k => (excS V X (1 + k)).getD (0, 0)) := by
    rw [allX_ok hpay]
    exact runT_all fun i hi => by obtain ⟨e, he, _⟩ := hex i hi; rw [he]; rfl
  rw [hall2]
  rw [List.all_eq_true]
  intro e he
  obtain ⟨k, hk, rfl⟩ := List.mem_map.1 he
  obtain ⟨e, he, hn⟩ := hex k (List.mem_range.1 hk)
  rw [he]
  simpa using hn
theorem conv_core {n : Nat} {V : List Int} (h : convOk (n : Int) V = true) {ord : List Int} (hl : ord.length = n) (ho : ordTo (n : Int) ord n = true) : coreS (n : Int) V (wholeL (mvL n V ord n)) = true := by
  have hg : gameOk (n : Int) V = true := by unfold convOk at h; rw [Bool.and_eq_true] at h; exact h.1
  obtain ⟨n', hn', h1, h5, hlen, h0, hV⟩ := gameOk_len hg
  obtain rfl : n = n' := by omega
  have hml := mvL_len n V ord n
  have hc := cN_le n h5
  refine core_of hg (D := 1) (S := fun j => (mvL n V ord n)[j]?.getD 0) (by omega) (by rw [wholeL_len, hml]) (fun k hk => ?_) (fun k => ?_) ?_ (fun s hs => ?_)
  · rw [wholeL_at (by omega)]
    have := mvL_bd (n := n) hV ord k n
    exact Fr.int _ (by omega) (by omega)
  · have := mvL_bd (n := n) hV ord k n
    omega
  · rw [(conv_ord h hl ho (S := 0) (by omega)).2, Int.mul_one]
  · rw [Int.mul_one]; exact (conv_ord h hl ho hs).1
theorem sumM_sums (f : List Int → Nat → Int) (s : Nat) : ∀ L : List (List Int), sumM (fun k => (L.map fun o => f o k).sum) s 5 = (L.map fun o => sumM (f o) s 5).sum
  | [] => by simp only [List.map_nil, List.sum_nil]; exact sumM_zero s 5
  | o :: L => by
    simp only [List.map_cons, List.sum_cons]
    rw [sumM_add, sumM_sums f s L]
theorem sum_ge {α : Type} (f : α → Int) (c : Int) : ∀ L : List α, (∀ x ∈ L, c ≤ f x) → c * (L.length : Int) ≤ (L.map f).sum
  | [], _ => by simp
  | x :: L, h => by
    have ih := sum_ge f c L fun y hy => h y (List.mem_cons_of_mem _ hy)
    have := h x List.mem_cons_self
    simp only [List.length_cons, List.map_cons, List.sum_cons, Int.natCast_add, Int.natCast_one, Int.mul_add, Int.mul_one]
    omega
theorem conv_shap {n : Nat} {V : List Int} (h : convOk (n : Int) V = true) : coreS (n : Int) V (shapL (n : Int) V) = true := by
  have hg : gameOk (n : Int) V = true := by unfold convOk at h; rw [Bool.and_eq_true] at h; exact h.1
  obtain ⟨n', hn', h1, h5, hlen, h0, hV⟩ := gameOk_len hg
  obtain rfl : n = n' := by omega
  have hc := cN_le n h5
  have hb := factN_bd n h5
  have hfr := fun k => shap_fr h5 hV hlen k
  have hord : ∀ o ∈ ordersF n n [], o.length = n ∧ ordTo (n : Int) o n = true := fun o ho => by
    rw [← ordersOf_F h1 h5] at ho
    obtain ⟨i, hi, rfl⟩ := List.getElem_of_mem ho
    have := ordersOf_ord n h1 h5 i hi
    rw [List.getElem?_eq_getElem hi] at this
    have hl := this.1
    refine ⟨hl, ?_⟩
    have h2 := this.2
    simp only [Option.getD_some] at h2 hl
    exact h2
  have hcount := ord_count ⟨n, by omega⟩
  simp only at hcount
  have hsw : ∀ s, sumM (fun k => avgS (shV n) V k (cN n)) s 5 = ((ordersF n n []).map fun o => sumM (fun k => (mvL n V o n)[k]?.getD 0) s 5).sum → True := fun _ _ => trivial
  have hval : ∀ s, s < cN n → sumM (fun k => if k < n then avgS (shV n) V k (cN n) else 0) s 5 = ((ordersF n n []).map fun o => sumM (fun k => (mvL n V o n)[k]?.getD 0) s 5).sum := fun s hs => by
    rw [← sumM_sums (fun o k => (mvL n V o n)[k]?.getD 0)]
    refine sumM_congr fun k hk => ?_
    by_cases hkn : k < n
    · rw [if_pos hkn, ord_sum h5 hkn V]
    · rw [if_neg hkn]
      have : ∀ L : List (List Int), (L.map fun o => (mvL n V o n)[k]?.getD 0).sum = 0 := by
        intro L
        induction L with
        | nil => rfl
        | cons o L ih => rw [List.map_cons, List.sum_cons, ih, List.getElem?_eq_none (by rw [mvL_len]; omega)]; rfl
      exact (this _).symm
  refine core_of hg (D := factN n) (S := fun k => if k < n then avgS (shV n) V k (cN n) else 0) hb (shapL_len' hg) (fun k hk => ?_) (fun k => ?_) ?_ (fun s hs => ?_)
  · rw [shapL_ok hg, avgT_at hk]
    rw [if_pos hk]
    exact (hfr k).1
  · split
    · exact (hfr k).2
    · omega
  · rw [hval _ (by omega)]
    have he : ∀ o ∈ ordersF n n [], sumM (fun k => (mvL n V o n)[k]?.getD 0) (cN n - 1) 5 = V[cN n - 1]?.getD 0 := fun o ho => (conv_ord h (hord o ho).1 (hord o ho).2 (S := 0) (by omega)).2
    rw [List.map_congr_left he, ← hcount]
    have : ∀ (c : Int) (L : List (List Int)), (L.map fun _ => c).sum = c * (L.length : Int) := by
      intro c L
      induction L with
      | nil => simp
      | cons o L ih => rw [List.map_cons, List.sum_cons, ih, List.length_cons, Int.natCast_add, Int.natCast_one, Int.mul_add]; omega
    exact this _ _
  · rw [hval _ hs, ← hcount]
    exact sum_ge _ _ _ fun o ho => (conv_ord h (hord o ho).1 (hord o ho).2 hs).1
end Go.Proofs.Ytgohdmnbnhehnaa
namespace Go.Proofs.Ytgohdmnbnhehnaa
set_option linter.unusedVariables false
set_option linter.unusedSimpArgs false
set_option maxRecDepth 100000
open Go.RowKit
def joinT (f : Nat → Bool) : Nat → Nat
  | 0 => 0
  | k + 1 => joinT f k + if f k = true then cN k else 0
theorem joinT_lt (f : Nat → Bool) : ∀ k, joinT f k < cN k
  | 0 => by simp [joinT, cN]
  | k + 1 => by
    have ih := joinT_lt f k
    have e : cN (k + 1) = cN k + cN k := by unfold cN; rw [Nat.pow_succ]; omega
    unfold joinT
    split <;> omega
def orF (a b k : Nat) : Bool := bit (a : Int) k || bit (b : Int) k
def andF (a b k : Nat) : Bool := bit (a : Int) k && bit (b : Int) k
theorem or_all : ∀ a b : Fin 32, joinT (orF a.val b.val) 5 = a.val ||| b.val := by decide +kernel
theorem and_all : ∀ a b : Fin 32, joinT (andF a.val b.val) 5 = a.val &&& b.val := by decide +kernel
set_option maxHeartbeats 4000000 in
theorem s_Union (a b : Nat) (ha : a < 32) (hb : b < 32) (w : World) :
    Calls Try.prog 147 #[.int .i64 (a : Int), .int .i64 (b : Int)] w fun e w' => e = .returned (.int .i64 ((a ||| b : Nat) : Int)) ∧ w = w' := by
  have hin : inB (a : Int) 0 31 = true := by unfold inB; simp; omega
  have hin2 : inB (b : Int) 0 31 = true := by unfold inB; simp; omega
  have HG := Lib.hid (fun w' => s_l2Good (a : Int) w')
  have HG2 := Lib.hid (fun w' => s_l2Good (b : Int) w')
  rw [hin] at HG
  rw [hin2] at HG2
  clear hin hin2
  have HE := Lib.hid (or_all ⟨a, ha⟩ ⟨b, hb⟩)
  go_enter Try.func147, Try.ntmps147
  go_wp2_with fail
  go_loopg [5, 6] 5 (fun gk o i wr => ∃ (k : Nat), Hid (gk + k = 5) ∧ i = .int .i64 (k : Int) ∧ o = .int .i64 (joinT (orF a b) k : Int) ∧ wr = w)
  case atStart => exact ⟨0, Lib.hid (by omega), rfl, rfl, rfl⟩
  case round =>
    obtain ⟨g1, h_g1⟩ : ∃ x, x = gk := ⟨_, rfl⟩
    subst h_g1
    obtain ⟨wr1, h_wr1⟩ : ∃ x, x = wr := ⟨_, rfl⟩
    subst h_wr1
    obtain ⟨k, HK, rfl, ho, rfl⟩ := hrel
    obtain ⟨T, hT⟩ : ∃ T, T = joinT (orF a b) k := ⟨_, rfl⟩
    rw [← hT] at ho
    subst ho
    by_cases hlt : k < 5
    · have hTl : T < 32 := by have := joinT_lt (orF a b) k; have := (cN_le k (by omega)).2; omega
      have HT := Lib.hid hT
      clear hT
      have HA := Lib.hid (hasP_bit (a : Int) k (by omega) (by omega))
      have HB := Lib.hid (hasP_bit (b : Int) k (by omega) (by omega))
      have HC := Lib.hid (s_l2B k (by omega))
      have hp := pow_pos k
      have hp5 := pow_le5 k (by omega)
      cases hb1 : bit (a : Int) k
      all_goals
        cases hb2 : bit (b : Int) k
      all_goals
        have HS := Lib.hid (show joinT (orF a b) (k + 1) = T + if (bit (a : Int) k || bit (b : Int) k) = true then cN k else 0 by rw [HT.out]; rfl)
        rw [hb1] at HA
        rw [hb2] at HB
        rw [hb1, hb2] at HS
        clear hb1 hb2
        go_wp2_with fail
        refine (HG.out _).mono ?_
        rintro e w3 ⟨rfl, rfl⟩
        go_wp2_with fail
        refine (HG2.out _).mono ?_
        rintro e w3 ⟨rfl, rfl⟩
        go_wp2_with fail
        refine (s_HasPlayer (a : Int) (k : Int) _ (by omega)).mono ?_
        rw [HA.out]
        rintro e w3 ⟨rfl, rfl⟩
        go_wp2_with fail
        try (refine (s_HasPlayer (b : Int) (k : Int) _ (by omega)).mono ?_; rw [HB.out]; rintro e w3 ⟨rfl, rfl⟩; go_wp2_with fail)
        try (refine (HC.out _).mono ?_; rintro e w3 ⟨rfl, rfl⟩; go_wp2_with fail)
        go_roundg (g1 - 1)
        case measure => have := HK.out; omega
        case rel => exact ⟨k + 1, Lib.hid (by have := HK.out; omega), by go_num, by rw [HS.out]; simp [cN, go_sem]; try omega, rfl⟩
    · have hk5 : k = 5 := by have := HK.out; omega
      subst hk5
      have HT := Lib.hid hT
      clear hT
      go_wp2_with fail
      go_ret
      exact ⟨ret_int (by rw [HT.out, HE.out]), rfl⟩
set_option maxHeartbeats 4000000 in
theorem s_Overlap (a b : Nat) (ha : a < 32) (hb : b < 32) (w : World) :
    Calls Try.prog 146 #[.int .i64 (a : Int), .int .i64 (b : Int)] w fun e w' => e = .returned (.int .i64 ((a &&& b : Nat) : Int)) ∧ w = w' := by
  have hin : inB (a : Int) 0 31 = true := by unfold inB; simp; omega
  have hin2 : inB (b : Int) 0 31 = true := by unfold inB; simp; omega
  have HG := Lib.hid (fun w' => s_l2Good (a : Int) w')
  have HG2 := Lib.hid (fun w' => s_l2Good (b : Int) w')
  rw [hin] at HG
  rw [hin2] at HG2
  clear hin hin2
  have HE := Lib.hid (and_all ⟨a, ha⟩ ⟨b, hb⟩)
  go_enter Try.func146, Try.ntmps146
  go_wp2_with fail
  go_loopg [5, 6] 5 (fun gk o i wr => ∃ (k : Nat), Hid (gk + k = 5) ∧ i = .int .i64 (k : Int) ∧ o = .int .i64 (joinT (andF a b) k : Int) ∧ wr = w)
  case atStart => exact ⟨0, Lib.hid (by omega), rfl, rfl, rfl⟩
  case round =>
    obtain ⟨g1, h_g1⟩ : ∃ x, x = gk := ⟨_, rfl⟩
    subst h_g1
    obtain ⟨wr1, h_wr1⟩ : ∃ x, x = wr := ⟨_, rfl⟩
    subst h_wr1
    obtain ⟨k, HK, rfl, ho, rfl⟩ := hrel
    obtain ⟨T, hT⟩ : ∃ T, T = joinT (andF a b) k := ⟨_, rfl⟩
    rw [← hT] at ho
    subst ho
    by_cases hlt : k < 5
    · have hTl : T < 32 := by have := joinT_lt (andF a b) k; have := (cN_le k (by omega)).2; omega
      have HT := Lib.hid hT
      clear hT
      have HA := Lib.hid (hasP_bit (a : Int) k (by omega) (by omega))
      have HB := Lib.hid (hasP_bit (b : Int) k (by omega) (by omega))
      have HC := Lib.hid (s_l2B k (by omega))
      have hp := pow_pos k
      have hp5 := pow_le5 k (by omega)
      cases hb1 : bit (a : Int) k
      all_goals
        cases hb2 : bit (b : Int) k
      all_goals
        have HS := Lib.hid (show joinT (andF a b) (k + 1) = T + if (bit (a : Int) k && bit (b : Int) k) = true then cN k else 0 by rw [HT.out]; rfl)
        rw [hb1] at HA
        rw [hb2] at HB
        rw [hb1, hb2] at HS
        clear hb1 hb2
        go_wp2_with fail
        refine (HG.out _).mono ?_
        rintro e w3 ⟨rfl, rfl⟩
        go_wp2_with fail
        refine (HG2.out _).mono ?_
        rintro e w3 ⟨rfl, rfl⟩
        go_wp2_with fail
        refine (s_HasPlayer (a : Int) (k : Int) _ (by omega)).mono ?_
        rw [HA.out]
        rintro e w3 ⟨rfl, rfl⟩
        go_wp2_with fail
        try (refine (s_HasPlayer (b : Int) (k : Int) _ (by omega)).mono ?_; rw [HB.out]; rintro e w3 ⟨rfl, rfl⟩; go_wp2_with fail)
        try (refine (HC.out _).mono ?_; rintro e w3 ⟨rfl, rfl⟩; go_wp2_with fail)
        go_roundg (g1 - 1)
        case measure => have := HK.out; omega
        case rel => exact ⟨k + 1, Lib.hid (by have := HK.out; omega), by go_num, by rw [HS.out]; simp [cN, go_sem]; try omega, rfl⟩
    · have hk5 : k = 5 := by have := HK.out; omega
      subst hk5
      have HT := Lib.hid hT
      clear hT
      go_wp2_with fail
      go_ret
      exact ⟨ret_int (by rw [HT.out, HE.out]), rfl⟩
end Go.Proofs.Ytgohdmnbnhehnaa
namespace Go.Proofs.Ytgohdmnbnhehnaa
set_option linter.unusedVariables false
set_option linter.unusedSimpArgs false
set_option maxRecDepth 100000
open Go.RowKit
theorem ret_tupE {v : Value} {a b : Bool} (h : a = b) : Ending.returned (.tuple #[v, .bool a]) = .returned (.tuple #[v, .bool b]) := by rw [h]
theorem OwnR.madeE (w : World) (base n : Nat) (hn : n = w.heap.size) (hb : base ≤ w.heap.size) : OwnR (w.alloc (.cells #[] 34)) base (.slice (some ⟨n, 0, none⟩) 0 0) [] := by subst hn; exact OwnR.made w base hb
set_option maxHeartbeats 4000000 in
theorem s_ExcessOf {w : World} {p : Int} {a : Option Addr} {n cap : Nat} {V : List Int} (h : Ints w a n cap V) {b : Option Addr} {m mcap : Nat} {X : List (Int × Int)} (hx : Rats w b m mcap X) (hg : gameOk p V = true) {s : Nat} (hs : s < n) :
    Calls Try.prog 110 #[pair p a n cap, .slice b m mcap, .int .i64 (s : Int)] w fun e w' => e = .returned (resR ((excS V X s).getD (0, 0), (excS V X s).isSome)) ∧ Ext w w' := by
  obtain ⟨W, hW⟩ : ∃ W, W = (w.alloc (.cells #[.int .i64 p, .slice a n cap] 26)).alloc (.cells #[.int .i64 0, .int .i64 0] 34) := ⟨_, rfl⟩
  have HWS := Lib.hid (show W.heap.size = w.heap.size + 2 by rw [hW]; simp)
  have hX : Ext w W := by rw [hW]; exact (Ext.alloc _ _).trans (Ext.alloc _ _)
  have HRB := Lib.hid (show W.heap[w.heap.size + 1]? = some (.cells #[.int .i64 0, .int .i64 0] 34 (0, 0)) by rw [hW]; exact heapA_new _ _ _ (by simp))
  have HP0 := Lib.hid (show W.cell? ⟨w.heap.size, 0, none⟩ = some (.int .i64 p) by rw [hW]; exact Ext.cellSome (Ext.alloc _ _) (by simp))
  have HP1 := Lib.hid (show W.cell? ⟨w.heap.size, 1, none⟩ = some (.slice a n cap) by rw [hW]; exact Ext.cellSome (Ext.alloc _ _) (by simp))
  have HI := Lib.hid (h.ext hX)
  have HR := Lib.hid (hx.ext hX)
  have HX := Lib.hid hX
  have HV := Lib.hid (s_IsValidGame (p := p) HI.out)
  rw [hg, hW] at HV
  have HL := Lib.hid h.hlen
  obtain ⟨q, rfl, hq1, hq5, hVl, _, hVb⟩ := gameOk_len hg
  have hc := cN_le q hq5
  have hn32 : n ≤ 32 := by have := HL.out; omega
  have HVB := Lib.hid (fun i => getD_bd hVb i)
  have hcap := h.hcap
  have hmax := h.hmax
  have hin : inB (s : Int) 0 ((n : Int) - 1) = true := by unfold inB; simp; omega
  clear h hx hX hg hVl hVb
  go_enter Try.func110, Try.ntmps110
  go_wp2_with fail
  refine HV.out.mono ?_
  rw [← hW]
  rintro e w1 ⟨rfl, hx1⟩
  have X1 := Lib.hid hx1
  have b0 := hx1.cellSome HP0.out
  have b1 := hx1.cellSome HP1.out
  clear hx1 hW HV
  go_wp2_with fail
  refine (s_l1In _ _ _ _).mono ?_
  rw [hin]
  rintro e w2 ⟨rfl, rfl⟩
  clear hin
  go_wp2_with fail
  refine (s_ShareOf (HR.out.ext X1.out) s (by omega)).mono ?_
  obtain ⟨r1, r2, one, hr⟩ : ∃ r1 r2 one, ((shareP X s).getD (0, 0), (shareP X s).isSome) = (((r1, r2) : Int × Int), one) := ⟨_, _, _, rfl⟩
  rw [hr]
  have HSH := Lib.hid hr
  rintro e w3 ⟨rfl, hx3⟩
  obtain ⟨w4, hw4⟩ : ∃ E, E = w3.alloc (.cells #[.int .i64 r1, .int .i64 r2] 34) := ⟨_, rfl⟩
  have hx4 : Ext w3 w4 := by rw [hw4]; exact Ext.alloc _ _
  have X4 := Lib.hid ((X1.out.trans hx3).trans hx4)
  have c0 := (hx3.trans hx4).cellSome b0
  have c1 := (hx3.trans hx4).cellSome b1
  have d0 : w4.cell? ⟨w3.heap.size, 0, none⟩ = some (.int .i64 r1) := by rw [hw4]; simp
  have d1 : w4.cell? ⟨w3.heap.size, 1, none⟩ = some (.int .i64 r2) := by rw [hw4]; simp
  obtain ⟨vb, vo, rfl, hvc⟩ := (HI.out.ext X4.out).at hs
  obtain ⟨v, hv⟩ : ∃ v, v = V[s]?.getD 0 := ⟨_, rfl⟩
  rw [← hv] at hvc
  obtain ⟨p2, q2, ok, hpq⟩ : ∃ p2 q2 ok, subR (v, 1) (r1, r2) = ((p2, q2), ok) := ⟨_, _, _, rfl⟩
  have HPQ := Lib.hid hpq
  have HVV := Lib.hid hv
  clear hr hx3 hx4 b0 b1 hv hpq
  go_upto_region 4 with fail
  rw [← hw4]
  clear hw4
  go_upto_region 4 with fail
  go_cut [10, 11] (fun sx so wx => ∃ g : Nat, sx = .pointer (some ⟨g, 0, none⟩) ∧ so = .bool ok ∧ Hid (Boxed w4 wx g p2 q2))
  case first =>
    have hk2 : Ext w4 w4.drew := Ext.drew w4
    have hka : Ext w4 (w4.alloc (.cells #[.int .i64 0, .int .i64 0] 34)).drew := (Ext.alloc _ _).trans (Ext.drew _)
    have HKEEP := Lib.hid (fun (w' : World) (h : Ext w4 w') => (⟨h.cellSome c1, h.cellSome hvc, h.cellSome d0, h.cellSome d1, h⟩ : w'.cell? ⟨w.heap.size, 1, none⟩ = some (.slice (some ⟨vb, vo, none⟩) n cap) ∧ w'.cell? ⟨vb, vo + s, none⟩ = some (.int .i64 v) ∧ w'.cell? ⟨w3.heap.size, 0, none⟩ = some (.int .i64 r1) ∧ w'.cell? ⟨w3.heap.size, 1, none⟩ = some (.int .i64 r2) ∧ Ext w4 w'))
    go_region_held3 (fun w' => w'.cell? ⟨w.heap.size, 1, none⟩ = some (.slice (some ⟨vb, vo, none⟩) n cap) ∧ w'.cell? ⟨vb, vo + s, none⟩ = some (.int .i64 v) ∧ w'.cell? ⟨w3.heap.size, 0, none⟩ = some (.int .i64 r1) ∧ w'.cell? ⟨w3.heap.size, 1, none⟩ = some (.int .i64 r2) ∧ Ext w4 w')
      (first
        | with_reducible exact HKEEP.out _ hk2
        | with_reducible exact HKEEP.out _ hka
        | with_reducible exact HKEEP.out _ ((hk2.setCell (by first | (simp; done) | (simp; omega)) _).setCell (by first | (simp; done) | (simp; omega)) _)
        | with_reducible exact HKEEP.out _ (hk2.trans (Ext.alloc _ _))
        | with_reducible exact HKEEP.out _ (hBB.put _ _).ext)
      (first
        | (go_at_call 74
           (with_reducible refine (s_l3Int _ _).mono ?_)
           rintro e w5 ⟨rfl, hx_w5⟩
           first | (with_reducible have hBB := Boxed.grow hBB hx_w5) | (with_reducible have hBB := Boxed.firstD hx_w5) | (with_reducible have hBB := Boxed.laterD hk2 hx_w5) | skip
           first | (have b0_ := hBB.c0; have b1_ := hBB.c1; have fb_ := hBB.free) | skip
           have hk2 : Ext w4 w5 := by first | with_reducible exact hk2.trans hx_w5 | with_reducible exact hka.trans hx_w5 | with_reducible exact (hk2.trans (Ext.alloc _ _)).trans hx_w5
           have hk2s := hk2.size)
        | (go_at_call 98
           (with_reducible refine (s_SubRat _ _ _ _ _).mono ?_)
           rw [HPQ.out]
           rintro e w6 ⟨rfl, hx_w6⟩
           first | (with_reducible have hBB := Boxed.grow hBB hx_w6) | (with_reducible have hBB := Boxed.firstD hx_w6) | (with_reducible have hBB := Boxed.laterD hk2 hx_w6) | skip
           first | (have b0_ := hBB.c0; have b1_ := hBB.c1; have fb_ := hBB.free) | skip
           have hk2 : Ext w4 w6 := by first | with_reducible exact hk2.trans hx_w6 | with_reducible exact hka.trans hx_w6 | with_reducible exact (hk2.trans (Ext.alloc _ _)).trans hx_w6
           have hk2s := hk2.size)
        | fail)
    all_goals (go_wp2_with fail; go_meet; first | exact ⟨_, rfl, rfl, Lib.hid (hBB.put _ _)⟩ | exact ⟨_, rfl, rfl, Lib.hid (Boxed.new hk2 _ _)⟩ | exact ⟨_, rfl, rfl, Lib.hid (Boxed.new' hk2 _ _ (by simp))⟩)
  obtain ⟨g, rfl, rfl, HB⟩ := hcut
  have g0 := HB.out.c0
  have g1 := HB.out.c1
  have XC := Lib.hid (X4.out.trans HB.out.ext)
  have hr := rcell ((XC.out.block _ (by have := HWS.out; omega)).trans HRB.out)
  obtain ⟨hr0, hr1, hrf⟩ := hr
  have XF := Lib.hid (HX.out.trans XC.out)
  cases one
  · have HN := Lib.hid (show excS V X s = none by
      have := HSH.out
      simp only [Prod.mk.injEq] at this
      unfold excS
      cases hsh : shareP X s with
      | none => rfl
      | some r => rw [hsh] at this; simp at this)
    go_wp2_with fail
    refine bodyPost_ret (v := .tuple #[.agg #[.int .i64 0, .int .i64 0], .bool false]) (by simp [results, Try.results110, go_sem, hr0, hr1]) rfl ⟨by rw [HN.out]; rfl, (XF.out.store 0 (by omega) _).store 1 (by omega) _⟩
  · have HN := Lib.hid (show excS V X s = if ok = true then some (p2, q2) else none by
      have := HSH.out
      simp only [Prod.mk.injEq] at this
      unfold excS
      cases hsh : shareP X s with
      | none => rw [hsh] at this; simp at this
      | some r =>
        rw [hsh] at this
        simp only [Option.getD_some] at this
        rw [this.1]
        show excR (V[s]?.getD 0) (r1, r2) = _
        unfold excR
        rw [← HVV.out, HPQ.out])
    cases ok
    · go_wp2_with fail
      refine bodyPost_ret (v := .tuple #[.agg #[.int .i64 0, .int .i64 0], .bool false]) (by simp [results, Try.results110, go_sem, hr0, hr1]) rfl ⟨by rw [HN.out]; rfl, (XF.out.store 0 (by omega) _).store 1 (by omega) _⟩
    · go_wp2_with fail
      refine bodyPost_ret (v := .tuple #[.agg #[.int .i64 p2, .int .i64 q2], .bool true]) (by simp [results, Try.results110, go_sem, hr0, hr1]) rfl ⟨by rw [HN.out]; rfl, (XF.out.store 0 (by omega) _).store 1 (by omega) _⟩
set_option maxHeartbeats 4000000 in
theorem s_l11All {w : World} {p : Int} {a : Option Addr} {n cap : Nat} {V : List Int} (h : Ints w a n cap V) {b : Option Addr} {m mcap : Nat} {X : List (Int × Int)} (hx : Rats w b m mcap X) :
    Calls Try.prog 84 #[pair p a n cap, .slice b m mcap] w fun e w' => (∃ v, e = .returned (.tuple #[v, .bool (allX p V X).isSome]) ∧ OwnR w' w.heap.size v ((allX p V X).getD [])) ∧ Ext w w' := by
  have HX := Lib.hid (Ext.alloc w (.cells #[.int .i64 p, .slice a n cap] 26))
  have HI := Lib.hid (h.ext HX.out)
  have HR := Lib.hid (hx.ext HX.out)
  have HL := Lib.hid h.hlen
  have hcap := h.hcap
  have hmax := h.hmax
  have HP := Lib.hid (fun (w' : World) (hx' : Ext (w.alloc (.cells #[.int .i64 p, .slice a n cap] 26)) w') => s_IsPayoff (p := p) (HI.out.ext hx') (HR.out.ext hx'))
  have k0 : (w.alloc (.cells #[.int .i64 p, .slice a n cap] 26)).cell? ⟨w.heap.size, 0, none⟩ = some (.int .i64 p) := by simp
  have k1 : (w.alloc (.cells #[.int .i64 p, .slice a n cap] 26)).cell? ⟨w.heap.size, 1, none⟩ = some (.slice a n cap) := by simp
  obtain ⟨W, hW⟩ : ∃ W, W = w.alloc (.cells #[.int .i64 p, .slice a n cap] 26) := ⟨_, rfl⟩
  rw [← hW] at HX HI HR HP k0 k1
  have HWS := Lib.hid (show W.heap.size = w.heap.size + 1 by rw [hW]; simp)
  have k0' := (Ext.alloc W (.cells #[] 34)).cellSome k0
  have k1' := (Ext.alloc W (.cells #[] 34)).cellSome k1
  clear h hx
  go_enter Try.func84, Try.ntmps84
  go_upto_region 2 with fail
  rw [← hW]
  clear hW
  go_wp2_with fail
  refine (HP.out _ (Ext.alloc W (.cells #[] 34))).mono ?_
  rintro e w1 ⟨rfl, hx1⟩
  have X1 := Lib.hid ((Ext.alloc W (.cells #[] 34)).trans hx1)
  have HO1 := Lib.hid (show OwnR w1 W.heap.size (.slice (some ⟨w.heap.size + 1, 0, none⟩) 0 0) [] from HWS.out ▸ (OwnR.made W W.heap.size (Nat.le_refl _)).ext hx1)
  clear hx1 k0' k1'
  cases hp : payP p V X
  · have HN := Lib.hid (allX_not hp)
    clear hp
    go_wp2_with fail
    go_ret2
    exact ⟨⟨_, ret_tupE (by rw [HN.out]; rfl), by rw [HN.out]; exact HO1.out.mono (by rw [HWS.out]; omega)⟩, HX.out.trans X1.out⟩
  have HA := Lib.hid (allX_ok hp)
  have HG := Lib.hid (payP_game hp)
  obtain ⟨q, hpq, hq1, hq5, hVl, _, hVb⟩ := gameOk_len HG.out
  have hc := cN_le q hq5
  have hn32 : n ≤ 32 := by have := HL.out; omega
  have hn2 : 2 ≤ n := by
    have : ∀ q : Fin 6, 1 ≤ q.val → 2 ≤ cN q.val := by decide
    have := this ⟨q, by omega⟩ hq1
    simp only at this
    have := HL.out
    omega
  rw [HL.out] at HA
  clear hp hpq hVl hVb
  go_wp2_with fail
  go_loopg [6, 7] (n - 2) (fun gk oo ii wr => ∃ (k s : Nat) (a1 : Option Addr) (n1 p1 : Nat) (r : List (Int × Int)), Hid (gk + k = n - 2) ∧ Hid (s = 1 + k) ∧ oo = .slice a1 n1 p1 ∧ ii = .int .i64 (s : Int) ∧ Hid (runT (fun k => excS V X (1 + k)) k = some r) ∧ Hid (OwnR wr W.heap.size (.slice a1 n1 p1) r) ∧ Hid (Ext W wr))
  case atStart => exact ⟨0, 1, _, _, _, [], Lib.hid (by omega), Lib.hid rfl, rfl, rfl, Lib.hid rfl, HO1, X1⟩
  case round =>
    obtain ⟨g1, h_g1⟩ : ∃ x, x = gk := ⟨_, rfl⟩
    subst h_g1
    obtain ⟨wr, h_wr⟩ : ∃ x, x = wr := ⟨_, rfl⟩
    subst h_wr
    obtain ⟨k, s, a1, n1, p1, r, HK, HS, rfl, rfl, HRR, HO, XR⟩ := hrel
    have c0 := XR.out.cellSome k0
    have c1 := XR.out.cellSome k1
    have hsz := XR.out.size
    have hs1 : 1 ≤ s := by have := HS.out; omega
    by_cases hlt : s + 1 < n
    · have HE := Lib.hid (s_ExcessOf (p := p) (HI.out.ext XR.out) (HR.out.ext XR.out) HG.out (s := s) (by omega))
      obtain ⟨x, y, ok, hxy⟩ : ∃ x y ok, ((excS V X s).getD (0, 0), (excS V X s).isSome) = (((x, y) : Int × Int), ok) := ⟨_, _, _, rfl⟩
      rw [hxy] at HE
      have HXY := Lib.hid hxy
      clear hxy
      go_wp2_with fail
      refine HE.out.mono ?_
      rintro e w3 ⟨rfl, hx3⟩
      have X4 := Lib.hid ((XR.out.trans hx3).trans (Ext.alloc w3 (.cells #[.int .i64 x, .int .i64 y] 34)))
      have HO4 := Lib.hid ((HO.out.ext hx3).ext (Ext.alloc w3 (.cells #[.int .i64 x, .int .i64 y] 34)))
      have hs3 := (XR.out.trans hx3).size
      clear hx3
      cases ok
      · have HN := Lib.hid (show allX p V X = none by
          rw [HA.out]
          unfold excL
          refine runT_fail HRR.out ?_ (show k < n - 2 by have := HS.out; omega)
          rw [← HS.out]
          have := HXY.out
          simp only [Prod.mk.injEq] at this
          cases hq : excS V X s with
          | none => rfl
          | some z => rw [hq] at this; simp at this)
        go_wp2_with fail
        go_ret2
        exact ⟨⟨_, ret_tupE (by rw [HN.out]; rfl), by rw [HN.out]; exact OwnR.madeE _ _ _ (by simp) (by have := X4.out.size; have := HX.out.size; omega)⟩, (HX.out.trans X4.out).trans (Ext.alloc _ _)⟩
      · have HR2 := Lib.hid (runT_some (x := (x, y)) HRR.out (by
          rw [← HS.out]
          have := HXY.out
          simp only [Prod.mk.injEq] at this
          cases hq : excS V X s with
          | none => rw [hq] at this; simp at this
          | some z => rw [hq] at this; simp at this; rw [this]))
        have HLR := Lib.hid (runT_len HRR.out)
        have hk32 : k ≤ 32 := by have := HS.out; omega
        go_wp2_with (first
          | (at_builtin; refine append_rats rfl _ _ rfl W.heap.size (.slice a1 n1 p1) _ rfl (HO4.out.ext (Ext.alloc _ _)) _ 1 _ [(x, y)] rfl (Rats.one' _ _ _ _ _ (by simp)) (by rw [HLR.out]; omega) (by simp; omega) ?_; intro v2 w5 ho hg hnear; obtain ⟨a2, n2, c2, rfl, HN2⟩ := ho.var; have HO5 := Lib.hid ho; have X5 := Lib.hid (ext_grown (X4.out.trans (Ext.alloc _ _)) hg (fun j hj => (HO4.out.lt j hj).1)); clear ho hg hnear))
        go_roundg (g1 - 1)
        case measure => have := HK.out; have := HS.out; omega
        case rel => exact ⟨k + 1, s + 1, a2, n2, c2, _, Lib.hid (by have := HK.out; have := HS.out; omega), Lib.hid (by have := HS.out; omega), rfl, by go_num, HR2, HO5, X5⟩
    · have hk2 : k = n - 2 := by have := HK.out; have := HS.out; omega
      subst hk2
      go_wp2_with fail
      go_ret2
      exact ⟨⟨_, ret_tupE (by rw [HA.out]; unfold excL; rw [HRR.out]; rfl), by rw [HA.out]; unfold excL; rw [HRR.out]; exact HO.out.mono (by rw [HWS.out]; omega)⟩, HX.out.trans XR.out⟩
set_option maxHeartbeats 4000000 in
theorem s_InCore {w : World} {p : Int} {a : Option Addr} {n cap : Nat} {V : List Int} (h : Ints w a n cap V) {b : Option Addr} {m mcap : Nat} {X : List (Int × Int)} (hx : Rats w b m mcap X) :
    Calls Try.prog 30 #[pair p a n cap, .slice b m mcap] w fun e w' => e = .returned (.bool (coreS p V X)) ∧ Ext w w' := by
  have HX := Lib.hid (Ext.alloc w (.cells #[.int .i64 p, .slice a n cap] 26))
  have HA := Lib.hid (s_l11All (p := p) (h.ext HX.out) (hx.ext HX.out))
  clear h hx
  go_enter Try.func30, Try.ntmps30
  go_wp2_with fail
  refine HA.out.mono ?_
  rintro e w1 ⟨⟨v, rfl, ho⟩, hx1⟩
  have X1 := Lib.hid (HX.out.trans hx1)
  obtain ⟨o, ho2⟩ : ∃ o, o = allX p V X := ⟨_, rfl⟩
  rw [← ho2] at ho
  rw [← ho2]
  obtain ⟨l, hl⟩ : ∃ l, l = o.getD [] := ⟨_, rfl⟩
  rw [← hl] at ho
  obtain ⟨al, nl, cl, rfl, HN⟩ := ho.var
  have hq1 := ho.rats.hcap
  have hq2 := ho.rats.hmax
  have HO := Lib.hid ho
  have HC := Lib.hid (show coreS p V X = (o.isSome && l.all fun e => decide (e.1 ≤ 0)) by
    unfold coreS
    rw [← ho2, hl]
    cases o <;> rfl)
  clear ho ho2 hl hx1
  go_wp2_with fail
  go_loopg [7] nl (fun gk ii wr => ∃ (k : Nat), Hid (gk + k = nl) ∧ ii = .int .i64 (k : Int) ∧ Hid ((l.take k).all (fun e => decide (e.1 ≤ 0)) = true) ∧ Hid (Ext w1 wr))
  case atStart => exact ⟨0, Lib.hid (by omega), rfl, Lib.hid rfl, Lib.hid (Ext.refl _)⟩
  case round =>
    obtain ⟨g1, h_g1⟩ : ∃ x, x = gk := ⟨_, rfl⟩
    subst h_g1
    obtain ⟨wr, h_wr⟩ : ∃ x, x = wr := ⟨_, rfl⟩
    subst h_wr
    obtain ⟨k, HK, rfl, HT, XR⟩ := hrel
    by_cases hlt : k < nl
    · obtain ⟨xb, xo, x, y, rfl, hxy, hc0, hc1⟩ := (HO.out.rats.ext XR.out).at hlt
      have HXY := Lib.hid hxy
      clear hxy
      by_cases hpos : 0 < x
      · have HN2 := Lib.hid (show coreS p V X = false by
          rw [HC.out, Bool.and_eq_false_iff]
          refine .inr ?_
          rw [Bool.eq_false_iff]
          intro hall
          have := List.all_eq_true.1 hall (l[k]'(by rw [HN.out]; exact hlt)) (List.getElem_mem _)
          have e := HXY.out
          rw [List.getElem?_eq_getElem (by rw [HN.out]; exact hlt), Option.getD_some] at e
          rw [e] at this
          simp only [decide_eq_true_eq] at this
          omega)
        go_wp2_with fail
        go_ret
        exact ⟨ret_bool HN2.out.symm, X1.out.trans XR.out⟩
      · have HT2 := Lib.hid (show (l.take (k + 1)).all (fun e => decide (e.1 ≤ 0)) = true by
          rw [take_snocR (by rw [HN.out]; exact hlt), List.all_append, HT.out, HXY.out]
          simp only [List.all_cons, List.all_nil, Bool.and_true, Bool.true_and, decide_eq_true_eq]
          omega)
        go_wp2_with fail
        go_roundg (g1 - 1)
        case measure => have := HK.out; omega
        case rel => exact ⟨k + 1, Lib.hid (by have := HK.out; omega), by go_num, HT2, XR⟩
    · have HC2 := Lib.hid (show coreS p V X = o.isSome by
        have h := HT.out
        rw [List.take_of_length_le (by rw [HN.out]; omega)] at h
        rw [HC.out, h, Bool.and_true])
      go_wp2_with fail
      go_ret
      exact ⟨ret_bool HC2.out.symm, X1.out.trans XR.out⟩
end Go.Proofs.Ytgohdmnbnhehnaa
namespace Go.Proofs.Ytgohdmnbnhehnaa
set_option linter.unusedVariables false
set_option linter.unusedSimpArgs false
set_option maxRecDepth 100000
open Go.RowKit
def noneF (V : List Int) (a m : Nat) : Bool := (List.range m).all fun b => !convF V a b
theorem noneF_succ (V : List Int) (a m : Nat) : noneF V a (m + 1) = (noneF V a m && !convF V a m) := by unfold noneF; rw [List.range_succ, List.all_append]; simp
def nonF (V : List Int) (m : Nat) : Bool := (List.range m).all fun a => noneF V a V.length
theorem nonF_succ (V : List Int) (m : Nat) : nonF V (m + 1) = (nonF V m && noneF V m V.length) := by unfold nonF; rw [List.range_succ, List.all_append]; simp
theorem convOk_eq (p : Int) (V : List Int) : convOk p V = (gameOk p V && nonF V V.length) := rfl
theorem noneF_bad {V : List Int} {a b m : Nat} (h : convF V a b = true) (hb : b < m) : noneF V a m = false := by
  rw [Bool.eq_false_iff]
  intro hall
  have := List.all_eq_true.1 hall b (List.mem_range.2 hb)
  rw [h] at this
  cases this
theorem nonF_bad {V : List Int} {a m : Nat} (h : noneF V a V.length = false) (ha : a < m) : nonF V m = false := by
  rw [Bool.eq_false_iff]
  intro hall
  have := List.all_eq_true.1 hall a (List.mem_range.2 ha)
  rw [h] at this
  cases this
theorem ret_trip {u v : Value} {a b : Bool} (h : a = b) : Ending.returned (.tuple #[u, v, .bool a]) = .returned (.tuple #[u, v, .bool b]) := by rw [h]
set_option maxHeartbeats 8000000 in
theorem s_l10Fault {w : World} {p : Int} {a : Option Addr} {n cap : Nat} {V : List Int} (h : Ints w a n cap V) :
    Calls Try.prog 129 #[pair p a n cap, .int .i64 3] w fun e w' => (∃ (x y : Int), e = .returned (.tuple #[.int .i64 x, .int .i64 y, .bool (gameOk p V && !nonF V V.length)])) ∧ Ext w w' := by
  obtain ⟨W, hW⟩ : ∃ W, W = w.alloc (.cells #[.int .i64 p, .slice a n cap] 26) := ⟨_, rfl⟩
  have hX : Ext w W := by rw [hW]; exact Ext.alloc _ _
  have k0 : W.cell? ⟨w.heap.size, 0, none⟩ = some (.int .i64 p) := by rw [hW]; simp
  have k1 : W.cell? ⟨w.heap.size, 1, none⟩ = some (.slice a n cap) := by rw [hW]; simp
  have HI := Lib.hid (h.ext hX)
  have HX := Lib.hid hX
  have HL := Lib.hid h.hlen
  have hcap := h.hcap
  have hmax := h.hmax
  have HV := Lib.hid (fun (w' : World) (hx : Ext W w') => s_IsValidGame (p := p) (HI.out.ext hx))
  obtain ⟨z, hz⟩ : ∃ z, z = (gameOk p V && !nonF V V.length) := ⟨_, rfl⟩
  rw [← hz]
  have HZ := Lib.hid hz
  clear hz
  clear h hX
  go_enter Try.func129, Try.ntmps129
  go_upto_region 2 with fail
  rw [← hW]
  clear hW
  cases hg : gameOk p V
  · rw [hg] at HV HZ
    clear hg
    by_cases hn0 : 0 < n
    · go_wp2_with fail
      go_loopg [8] 1 (fun gk aa wr => aa = .int .i64 0 ∧ wr = W)
      case atStart => exact ⟨rfl, rfl⟩
      case round =>
        obtain ⟨rfl, rfl⟩ := hrel
        go_wp2_with fail
        refine (HV.out _ (Ext.refl _)).mono ?_
        rintro e w1 ⟨rfl, hx1⟩
        have X1 := Lib.hid hx1
        clear hx1
        go_wp2_with fail
        go_ret3
        exact ⟨⟨_, _, ret_trip (by rw [HZ.out]; rfl)⟩, HX.out.trans X1.out⟩
    · have hn : n = 0 := by omega
      subst hn
      go_wp2_with fail
      go_loopg [8] 1 (fun gk aa wr => aa = .int .i64 0 ∧ wr = W)
      case atStart => exact ⟨rfl, rfl⟩
      case round =>
        obtain ⟨rfl, rfl⟩ := hrel
        go_wp2_with fail
        go_ret3
        exact ⟨⟨_, _, ret_trip (by rw [HZ.out]; rfl)⟩, HX.out⟩
  · rw [hg] at HV HZ
    obtain ⟨q, hpq, hq1, hq5, hVl, _, hVb⟩ := gameOk_len hg
    have hc := cN_le q hq5
    have hnq : n = cN q := by have := HL.out; omega
    have hn32 : n ≤ 32 := by omega
    have HVB := Lib.hid (fun i => getD_bd hVb i)
    have HOR := Lib.hid (fun (x y : Nat) (hx : x < n) (hy : y < n) => show x ||| y < n by
      rw [hnq] at hx hy ⊢; exact Nat.or_lt_two_pow hx hy)
    have HAND := Lib.hid (fun (x y : Nat) (hx : x < n) => show x &&& y < n from Nat.lt_of_le_of_lt Nat.and_le_left hx)
    have HCEL := Lib.hid (fun (w' : World) (hx : Ext W w') => (HI.out.ext hx).cell)
    clear hg hpq hVl hVb hnq
    go_wp2_with fail
    go_loopg [8] n (fun gk aa wr => ∃ a : Nat, Hid (gk + a = n) ∧ aa = .int .i64 (a : Int) ∧ Hid (nonF V a = true) ∧ Hid (Ext W wr))
    case atStart => exact ⟨0, Lib.hid (by omega), rfl, Lib.hid rfl, Lib.hid (Ext.refl _)⟩
    case round =>
      obtain ⟨g1, h_g1⟩ : ∃ x, x = gk := ⟨_, rfl⟩
      subst h_g1
      obtain ⟨wr1, h_wr1⟩ : ∃ x, x = wr := ⟨_, rfl⟩
      subst h_wr1
      obtain ⟨a, HA, rfl, HNF, XR⟩ := hrel
      by_cases hlt : a < n
      · have p0 := XR.out.cellSome k0
        have p1 := XR.out.cellSome k1
        go_wp2_with fail
        refine (HV.out _ XR.out).mono ?_
        rintro e w1 ⟨rfl, hx1⟩
        have X1 := Lib.hid (XR.out.trans hx1)
        clear hx1
        go_wp2_with fail
        go_loopg [9] n (fun gk bb wr => ∃ b : Nat, Hid (gk + b = n) ∧ bb = .int .i64 (b : Int) ∧ Hid (noneF V a b = true) ∧ Hid (Ext W wr))
        case atStart => exact ⟨0, Lib.hid (by omega), rfl, Lib.hid rfl, X1⟩
        case round =>
          obtain ⟨g2, h_g2⟩ : ∃ x, x = gk := ⟨_, rfl⟩
          subst h_g2
          obtain ⟨wr2, h_wr2⟩ : ∃ x, x = wr := ⟨_, rfl⟩
          subst h_wr2
          obtain ⟨b, HB, rfl, HNN, XS⟩ := hrel
          by_cases hlb : b < n
          · obtain ⟨vb, vo, rfl, hcell⟩ := HCEL.out wr2 XS.out a hlt
            have q1 := XS.out.cellSome k1
            have x1 := hcell a hlt
            have x2 := hcell b hlb
            have x3 := hcell _ (HOR.out a b hlt hlb)
            have x4 := hcell _ (HAND.out a b hlt)
            have b1 := HVB.out a
            have b2 := HVB.out b
            have b3 := HVB.out (a ||| b)
            have b4 := HVB.out (a &&& b)
            have HU := Lib.hid (fun w' => s_Union a b (by omega) (by omega) w')
            have HO := Lib.hid (fun w' => s_Overlap a b (by omega) (by omega) w')
            have HCF := Lib.hid (show convF V a b = decide (V[a ||| b]?.getD 0 + V[a &&& b]?.getD 0 < V[a]?.getD 0 + V[b]?.getD 0) from rfl)
            have hu := HOR.out a b hlt hlb
            have ho := HAND.out a b hlt
            obtain ⟨y1, hy1⟩ : ∃ y, y = V[a]?.getD 0 := ⟨_, rfl⟩
            obtain ⟨y2, hy2⟩ : ∃ y, y = V[b]?.getD 0 := ⟨_, rfl⟩
            obtain ⟨y3, hy3⟩ : ∃ y, y = V[a ||| b]?.getD 0 := ⟨_, rfl⟩
            obtain ⟨y4, hy4⟩ : ∃ y, y = V[a &&& b]?.getD 0 := ⟨_, rfl⟩
            rw [← hy1] at x1 b1
            rw [← hy2] at x2 b2
            rw [← hy3] at x3 b3
            rw [← hy4] at x4 b4
            rw [← hy1, ← hy2, ← hy3, ← hy4] at HCF
            clear hy1 hy2 hy3 hy4 hcell
            generalize a ||| b = u at x3 HU hu
            generalize a &&& b = o at x4 HO ho
            have hw1 : IntKind.i64.wrap (y1 + y2) = y1 + y2 := by rw [IntKind.wrap_i64]; omega
            have hw2 : IntKind.i64.wrap (y3 + y4) = y3 + y4 := by rw [IntKind.wrap_i64]; omega
            by_cases hbad : y3 + y4 < y1 + y2
            · have HBD := Lib.hid (show nonF V V.length = false from nonF_bad (noneF_bad (by rw [HCF.out, decide_eq_true hbad]) (by rw [HL.out]; exact hlb)) (by rw [HL.out]; exact hlt))
              go_wp2_with fail
              go_quiet ((first | (go_at_call 147; exact quiet_same (HU.out _)) | (go_at_call 146; exact quiet_same (HO.out _))))
              go_wp2_with fail
              go_ret3
              exact ⟨⟨_, _, ret_trip (by rw [HZ.out, HBD.out]; rfl)⟩, (HX.out.trans XS.out).trans (Drew.ext ⟨_, rfl⟩)⟩
            · have HNN2 := Lib.hid (show noneF V a (b + 1) = true by rw [noneF_succ, HNN.out, HCF.out, decide_eq_false hbad]; rfl)
              go_wp2_with fail
              go_quiet ((first | (go_at_call 147; exact quiet_same (HU.out _)) | (go_at_call 146; exact quiet_same (HO.out _))))
              go_wp2_with fail
              go_roundg (g2 - 1)
              case measure => have := HB.out; omega
              case rel => exact ⟨b + 1, Lib.hid (by have := HB.out; omega), by go_num, HNN2, Lib.hid (XS.out.trans (Drew.ext ⟨_, rfl⟩))⟩
          · have hbn : b = n := by have := HB.out; omega
            subst hbn
            have HNF2 := Lib.hid (show nonF V (a + 1) = true by rw [nonF_succ, HNF.out, HL.out, HNN.out]; rfl)
            go_wp2_with fail
            go_roundg (g1 - 1)
            case measure => have := HA.out; omega
            case rel => exact ⟨a + 1, Lib.hid (by have := HA.out; omega), by go_num, HNF2, XS⟩
      · have han : a = n := by have := HA.out; omega
        subst han
        go_wp2_with fail
        go_ret3
        exact ⟨⟨_, _, ret_trip (by rw [HZ.out, HL.out, HNF.out]; rfl)⟩, HX.out.trans XR.out⟩
set_option maxHeartbeats 4000000 in
theorem s_IsConvex {w : World} {p : Int} {a : Option Addr} {n cap : Nat} {V : List Int} (h : Ints w a n cap V) :
    Calls Try.prog 29 #[pair p a n cap] w fun e w' => e = .returned (.bool (convOk p V)) ∧ Ext w w' := by
  have hX := Ext.alloc w (.cells #[.int .i64 p, .slice a n cap] 26)
  have HL10 : ∀ w' : World, Ext w w' → Calls Try.prog 83 #[pair p a n cap, .int .i64 3] w' fun e w2 => e = .returned (.bool (convOk p V)) ∧ Ext w' w2 := by
    intro w' hx
    have hi := h.ext hx
    have hX1 := Ext.alloc w' (.cells #[.int .i64 p, .slice a n cap] 26)
    have HI := Lib.hid (hi.ext hX1)
    have HX := Lib.hid hX1
    have HF := Lib.hid (s_l10Fault (p := p) HI.out)
    obtain ⟨z, hz⟩ : ∃ z, z = (gameOk p V && !nonF V V.length) := ⟨_, rfl⟩
    rw [← hz] at HF
    have HZ := Lib.hid hz
    clear hz
    have k0 : (w'.alloc (.cells #[.int .i64 p, .slice a n cap] 26)).cell? ⟨w'.heap.size, 0, none⟩ = some (.int .i64 p) := by simp
    have k1 : (w'.alloc (.cells #[.int .i64 p, .slice a n cap] 26)).cell? ⟨w'.heap.size, 1, none⟩ = some (.slice a n cap) := by simp
    clear hi hX1 hx hX h
    go_enter Try.func83, Try.ntmps83
    go_wp2_with fail
    refine HF.out.mono ?_
    rintro e w1 ⟨⟨x, y, rfl⟩, hx1⟩
    have X1 := Lib.hid (HX.out.trans hx1)
    have HV := Lib.hid (s_IsValidGame (p := p) (HI.out.ext hx1))
    replace k0 := hx1.cellSome k0
    replace k1 := hx1.cellSome k1
    clear hx1
    cases hg : gameOk p V
    · rw [hg] at HV
      have HN := Lib.hid (show convOk p V = false by rw [convOk_eq, hg]; rfl)
      clear hg
      go_wp2_with fail
      refine HV.out.mono ?_
      rintro e w2 ⟨rfl, hx2⟩
      have X2 := Lib.hid (X1.out.trans hx2)
      clear hx2
      go_wp2_with fail
      go_ret
      exact ⟨ret_bool HN.out.symm, X2.out⟩
    · rw [hg] at HV
      have HN := Lib.hid (show convOk p V = !z by rw [HZ.out, convOk_eq, hg]; simp)
      clear hg
      go_wp2_with fail
      refine HV.out.mono ?_
      rintro e w2 ⟨rfl, hx2⟩
      have X2 := Lib.hid (X1.out.trans hx2)
      clear hx2
      cases z
      all_goals
        go_wp2_with fail
        go_ret
        exact ⟨ret_bool HN.out.symm, X2.out⟩
  have HX := Lib.hid hX
  have H10 := Lib.hid (HL10 _ hX)
  clear h hX HL10
  go_enter Try.func29, Try.ntmps29
  go_wp2_with fail
  refine H10.out.mono ?_
  rintro e w1 ⟨rfl, hx1⟩
  have X1 := Lib.hid (HX.out.trans hx1)
  clear hx1
  go_wp2_with fail
  go_ret
  exact ⟨rfl, X1.out⟩
end Go.Proofs.Ytgohdmnbnhehnaa
