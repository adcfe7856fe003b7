/- The Shapley value: what it sums to, as sums over coalitions. Plain. -/
import Derived.Test.YtgohdmnbnhehnaaShap
import Derived.Test.YtgohdmnbnhehnaaFr
import Derived.Test.YtgohdmnbnhehnaaPayoff
namespace Go.Proofs.Ytgohdmnbnhehnaa
set_option linter.unusedVariables false
open Go.RowKit

/-- A sum of values with factors: (coalition, factor). -/
def evalE (e : List (Nat × Int)) (V : List Int) : Int := (e.map fun p => p.2 * V[p.1]?.getD 0).sum
theorem evalE_append (e e' : List (Nat × Int)) (V : List Int) : evalE (e ++ e') V = evalE e V + evalE e' V := by simp [evalE]
theorem evalE_cons (p : Nat × Int) (e : List (Nat × Int)) (V : List Int) : evalE (p :: e) V = p.2 * V[p.1]?.getD 0 + evalE e V := by simp [evalE]
def coefE (e : List (Nat × Int)) (t : Nat) : Int := (e.map fun p => if p.1 = t then p.2 else 0).sum
theorem coefE_cons (p : Nat × Int) (e : List (Nat × Int)) (t : Nat) : coefE (p :: e) t = (if p.1 = t then p.2 else 0) + coefE e t := by simp [coefE]
def sumTo32 (f : Nat → Int) : Int := ((List.range 32).map f).sum
theorem sum_add (f g : Nat → Int) : ∀ l : List Nat, (l.map fun t => f t + g t).sum = (l.map f).sum + (l.map g).sum
  | [] => by simp
  | t :: l => by simp only [List.map_cons, List.sum_cons, sum_add f g l]; omega
theorem sum_single (x : Int) (k : Nat) : ∀ l : List Nat, l.Nodup → (l.map fun t => if k = t then x else 0).sum = if k ∈ l then x else 0
  | [], _ => by simp
  | t :: l, h => by
    rw [List.nodup_cons] at h
    simp only [List.map_cons, List.sum_cons, sum_single x k l h.2, List.mem_cons]
    by_cases e : k = t
    · subst e; simp [h.1]
    · simp [e]
theorem evalE_coef (V : List Int) : ∀ e : List (Nat × Int), (∀ p ∈ e, p.1 < 32) → evalE e V = sumTo32 fun t => coefE e t * V[t]?.getD 0
  | [], _ => by
    have : ∀ l : List Nat, (l.map fun t => coefE [] t * V[t]?.getD 0).sum = 0 := by
      intro l
      induction l with
      | nil => rfl
      | cons t l ih => rw [List.map_cons, List.sum_cons, ih]; simp [coefE]
    exact (this _).symm
  | p :: e, h => by
    rw [evalE_cons, evalE_coef V e fun q hq => h q (List.mem_cons_of_mem _ hq)]
    have h1 : ∀ t, coefE (p :: e) t * V[t]?.getD 0 = (if p.1 = t then p.2 * V[p.1]?.getD 0 else 0) + coefE e t * V[t]?.getD 0 := by
      intro t
      rw [coefE_cons, Int.add_mul]
      congr 1
      split
      · next e => rw [e]
      · simp
    unfold sumTo32
    rw [List.map_congr_left fun t _ => h1 t, sum_add, sum_single _ _ _ List.nodup_range, if_pos (List.mem_range.2 (h p List.mem_cons_self))]
/-- Two sums with the same factors are the same. -/
theorem evalE_same {e e' : List (Nat × Int)} (h : (e ++ e').all (fun p => decide (p.1 < 32)) = true) (hc : (List.range 32).all (fun t => decide (coefE e t = coefE e' t)) = true) (V : List Int) : evalE e V = evalE e' V := by
  rw [List.all_append, Bool.and_eq_true] at h
  rw [evalE_coef V e fun p hp => of_decide_eq_true (List.all_eq_true.1 h.1 p hp), evalE_coef V e' fun p hp => of_decide_eq_true (List.all_eq_true.1 h.2 p hp)]
  unfold sumTo32
  congr 1
  exact List.map_congr_left fun t ht => by rw [of_decide_eq_true (List.all_eq_true.1 hc t ht)]

/-- What player k adds, by weights, as such a sum. -/
def avgE (wt : Nat → Int) (k : Nat) : Nat → List (Nat × Int)
  | 0 => []
  | m + 1 => avgE wt k m ++ (if bit (m : Int) k = true then [] else [(m + 2 ^ k, wt (popN m)), (m, -wt (popN m))])
theorem avgE_eval (wt : Nat → Int) (V : List Int) (k : Nat) : ∀ m, evalE (avgE wt k m) V = avgS wt V k m
  | 0 => rfl
  | m + 1 => by
    unfold avgE avgS
    rw [evalE_append, avgE_eval wt V k m]
    split
    · simp [evalE]
    · simp only [evalE, List.map_cons, List.map_nil, List.sum_cons, List.sum_nil, Int.mul_sub, Int.neg_mul]; omega
theorem avgS_add (wt : Nat → Int) (A B C : List Int) (k : Nat) (h : ∀ t : Nat, C[t]?.getD 0 = A[t]?.getD 0 + B[t]?.getD 0) : ∀ m, avgS wt C k m = avgS wt A k m + avgS wt B k m
  | 0 => rfl
  | m + 1 => by
    unfold avgS
    rw [avgS_add wt A B C k h m]
    split
    · omega
    · rw [h, h]
      have : wt (popN m) * (A[m + 2 ^ k]?.getD 0 + B[m + 2 ^ k]?.getD 0 - (A[m]?.getD 0 + B[m]?.getD 0)) = wt (popN m) * (A[m + 2 ^ k]?.getD 0 - A[m]?.getD 0) + wt (popN m) * (B[m + 2 ^ k]?.getD 0 - B[m]?.getD 0) := by
        rw [← Int.mul_add]; congr 1; omega
      rw [this]; omega
def allE (n : Nat) : List (Nat × Int) := (List.range n).flatMap fun k => avgE (shV n) k (cN n)
theorem sum_evalE (V : List Int) (f : Nat → List (Nat × Int)) : ∀ l : List Nat, evalE (l.flatMap f) V = (l.map fun k => evalE (f k) V).sum
  | [] => rfl
  | k :: l => by rw [List.flatMap_cons, evalE_append, sum_evalE V f l, List.map_cons, List.sum_cons]
theorem eff_dec : ∀ n : Fin 6, 1 ≤ n.val → ((allE n.val ++ [(cN n.val - 1, factN n.val), (0, -factN n.val)]).all (fun p => decide (p.1 < 32)) && (List.range 32).all (fun t => decide (coefE (allE n.val) t = coefE [(cN n.val - 1, factN n.val), (0, -factN n.val)] t))) = true := by decide +kernel
/-- The players' sums are what all earn. -/
theorem shap_eff {n : Nat} (h1 : 1 ≤ n) (h5 : n ≤ 5) (V : List Int) (h0 : V[0]?.getD 0 = 0) : ((List.range n).map fun k => avgS (shV n) V k (cN n)).sum = factN n * V[cN n - 1]?.getD 0 := by
  have hd := eff_dec ⟨n, by omega⟩ h1
  rw [Bool.and_eq_true] at hd
  have h := evalE_same hd.1 hd.2 V
  unfold allE at h
  rw [sum_evalE] at h
  rw [List.map_congr_left fun k _ => (avgE_eval (shV n) V k (cN n)).symm, h]
  simp [evalE, h0]

/-- The entries of the Shapley value: what they stand for. -/
theorem shap_fr {n : Nat} (h5 : n ≤ 5) {V : List Int} (hV : ∀ x ∈ V, -500 ≤ x ∧ x ≤ 500) (hl : V.length = cN n) (k : Nat) : Fr (avgR (shV n) V (factI (n : Int)) k) (avgS (shV n) V k (cN n)) (factN n) ∧ -32000000 ≤ avgS (shV n) V k (cN n) ∧ avgS (shV n) V k (cN n) ≤ 32000000 := by
  have hb := avgS_bd hV (shV_bd n h5) k (cN n)
  have hN := cN_le n h5
  have hf := factN_bd n h5
  have hb2 : -32000000 ≤ avgS (shV n) V k (cN n) ∧ avgS (shV n) V k (cN n) ≤ 32000000 := by omega
  have he : factI (n : Int) = factN n := by unfold factI; rw [Int.toNat_natCast]
  refine ⟨?_, hb2⟩
  unfold avgR
  rw [he, hl]
  exact ratOf_fr (by omega) (ratOf_ok (by omega) (by omega) (by omega) (by omega))
theorem shapL_ok {n : Nat} {V : List Int} (h : gameOk (n : Int) V = true) : shapL (n : Int) V = avgT (shV n) V (factI (n : Int)) n := by
  unfold shapL; rw [shapT_ok _ h, Int.toNat_natCast]
theorem avgT_at {wt : Nat → Int} {V : List Int} {d : Int} {n k : Nat} (h : k < n) : (avgT wt V d n)[k]?.getD (0, 0) = avgR wt V d k := by simp [avgT, h]

theorem mem_all : ∀ n : Fin 6, memI (((cN n.val - 1 : Nat)) : Int) 5 = (List.range n.val).map fun (k : Nat) => (k : Int) := by decide +kernel
theorem small_mul {x y : Int} {a b : Nat} (h1 : x.natAbs ≤ a) (h2 : y.natAbs ≤ b) : (x * y).natAbs ≤ a * b := by rw [Int.natAbs_mul]; exact Nat.mul_le_mul h1 h2
/-- Adding up fractions of one denominator. -/
theorem share_run {X : List (Int × Int)} {n : Nat} {D : Int} {S : Nat → Int} (hD : 1 ≤ D ∧ D ≤ 120) (hn : n ≤ 5) (hX : X.length = n) (hF : ∀ k, k < n → Fr (X[k]?.getD (0, 0)) (S k) D) (hS : ∀ k, -32000000 ≤ S k ∧ S k ≤ 32000000) :
    ∀ j, j ≤ n → ∃ r, payT X ((List.range j).map fun (k : Nat) => (k : Int)) (0, 1) = some r ∧ Fr r ((List.range j).map S).sum D ∧ (((List.range j).map S).sum).natAbs ≤ j * 32000000
  | 0, _ => ⟨(0, 1), rfl, (Fr.int 0 (by omega) (by omega)).move (by omega) (by simp), by simp⟩
  | j + 1, hj => by
    obtain ⟨r, h1, h2, h3⟩ := share_run hD hn hX hF hS j (by omega)
    have h4 := hF j (by omega)
    have h5 := hS j
    have e1 : (((List.range (j + 1)).map S).sum) = ((List.range j).map S).sum + S j := by rw [List.range_succ, List.map_append, List.sum_append]; simp
    obtain ⟨T, hT⟩ : ∃ T, T = ((List.range j).map S).sum := ⟨_, rfl⟩
    rw [← hT] at h2 h3 e1
    have b1 := h2.size
    have b2 := h4.size
    have hj5 : j * 32000000 ≤ 160000000 := by omega
    have m1 := small_mul (x := r.1) (y := (X[j]?.getD (0, 0)).2) (a := 160000000) (b := 120) (by omega) (by have := (valR_bd h4.1).1; omega)
    have m2 := small_mul (x := (X[j]?.getD (0, 0)).1) (y := r.2) (a := 160000000) (b := 120) (by omega) (by have := (valR_bd h2.1).1; omega)
    obtain ⟨r', ha, hf⟩ := h2.add h4 (z := T + S j) (F := D) (by omega) (by omega) (by omega) (by omega) (by grind)
    refine ⟨r', ?_, by rw [e1]; exact hf, by rw [e1]; omega⟩
    rw [List.range_succ, List.map_append, payT_append, h1]
    show payT X [(j : Int)] r = some r'
    simp only [payT]
    rw [if_neg (by rw [hX]; omega), Int.toNat_natCast, ha, if_pos rfl]

/-- The Shapley value of a valid game is a payoff. -/
theorem shap_pay {p : Int} {V : List Int} : payP p V (shapL p V) = gameOk p V := by
  cases hg : gameOk p V
  · unfold payP; rw [hg]; rfl
  · obtain ⟨n, rfl, h1, h5, hlen, h0, hV⟩ := gameOk_len hg
    have hX := shapL_ok hg
    have hXl : (shapL (n : Int) V).length = n := by rw [hX, avgT_len]
    have hf := factN_bd n h5
    have hfr := fun k => shap_fr h5 hV hlen k
    have hXk : ∀ k, k < n → (shapL (n : Int) V)[k]?.getD (0, 0) = avgR (shV n) V (factI (n : Int)) k := fun k hk => by rw [hX, avgT_at hk]
    obtain ⟨r, r1, r2, r3⟩ := share_run (X := shapL (n : Int) V) (S := fun k => avgS (shV n) V k (cN n)) hf h5 hXl (fun k hk => by rw [hXk k hk]; exact (hfr k).1) (fun k => (hfr k).2) n (Nat.le_refl _)
    rw [shap_eff h1 h5 V h0] at r2
    have hgr := grandV_ok hg
    rw [hlen] at hgr
    have hgb := getD_bd hV (cN n - 1)
    have hr : r = (grandV (n : Int) V, 1) := by
      rw [hgr]
      refine r2.eq (Fr.int _ (by omega) (by omega)) ?_
      rw [Int.mul_one, Int.mul_comm]
    have hsh : shareP (shapL (n : Int) V) (V.length - 1) = some (grandV (n : Int) V, 1) := by
      unfold shareP
      rw [hlen, mem_all ⟨n, by omega⟩, ← hr]
      exact r1
    have hal : allV (shapL (n : Int) V) = true := by
      unfold allV
      rw [List.all_eq_true]
      intro x hx
      obtain ⟨k, hk, rfl⟩ := List.getElem_of_mem hx
      have := hXk k (by rw [← hXl]; exact hk)
      rw [List.getElem?_eq_getElem hk, Option.getD_some] at this
      rw [this]
      exact (hfr k).1.1
    unfold payP
    rw [hg, hal, hsh, decide_eq_true (by rw [hXl]), decide_eq_true rfl]
    rfl

end Go.Proofs.Ytgohdmnbnhehnaa
