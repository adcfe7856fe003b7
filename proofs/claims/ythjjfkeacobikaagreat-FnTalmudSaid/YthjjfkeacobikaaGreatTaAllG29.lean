import Derived.Test.YthjjfkeacobikaaGreatTaAllG28
import Derived.Test.YthjjfkeacobikaaGreatTaAllG9
import Derived.Test.YthjjfkeacobikaaGreatTaAllG18
import Derived.Test.YthjjfkeacobikaaGreatTaAllG5
import Derived.Test.YthjjfkeacobikaaGreatTaAllG11
set_option linter.unusedVariables false
set_option linter.unusedSimpArgs false
namespace Go.Proofs.YthjjfkeacobikaaGreat
open Go.RowKit
def extE (n : Nat) (L : List (Int × Int × Int)) : List (Int × Int × Int) := L ++ [((n : Int) - 1, 0, 1)]
theorem subR_zero {v : Int} (h : -500 ≤ v ∧ v ≤ 500) : subR (0, 1) (v, 1) = ((-v, 1), true) := by
 have h1 : valR (0, 1) = true := by decide
 have h2 : valR (v, 1) = true := valR_mk (by omega) (by omega) (by simp only; omega) (by simp only; omega) (by simp only; rw [gI_nat]; simp)
 unfold subR
 rw [h1, h2]
 simp only [Bool.and_self, if_true]
 rw [show (0 : Int) * 1 - v * 1 = -v by omega, show (1 : Int) * 1 = 1 by rfl]
 have h3 : valR (-v, 1) = true := valR_mk (by omega) (by omega) (by simp only; omega) (by simp only; omega) (by simp only; rw [gI_nat]; simp)
 have hg : gI (-v) 1 = 1 := by rw [gI_nat]; simp
 unfold ratOf
 rw [if_neg (by simp [inB]; omega), if_neg (by omega), hg]
 simp only [Int.tdiv_one]
 unfold cutR
 rw [if_pos h3]
theorem costC_grand {V : List Int} {n : Nat} (hn : V.length = n) (h1 : 1 ≤ n) (hV : ∀ y ∈ V, -500 ≤ y ∧ y ≤ 500) : costC V ((n : Int) - 1, 0, 1) = (-(V[n - 1]?.getD 0), 1) := by
 have hb := getD_bd hV (n - 1)
 unfold costC
 simp only
 rw [show ((n : Int) - 1).toNat = n - 1 by omega, subR_zero hb]
theorem cols_ext {V : List Int} {n : Nat} (hn : V.length = n) (h1 : 1 ≤ n) (hV : ∀ y ∈ V, -500 ≤ y ∧ y ≤ 500) (L : List (Int × Int × Int)) : frontC V (freeL L (n - 2)) ++ fixedC V (extE n L) = colsL V L := by
 have e1 : fixedC V (extE n L) = fixedC V L ++ twoC ((n : Int) - 1) (costC V ((n : Int) - 1, 0, 1)) := by
  unfold extE fixedC
  rw [List.flatMap_append]
  simp
 rw [e1, costC_grand hn h1 hV]
 unfold colsL
 rw [hn, List.append_assoc]
def fitC (V : List Int) (f : Int × Int × Int) : Bool := (subR f.2 (V[f.1.toNat]?.getD 0, 1)).2
theorem subR_val {a b : Int × Int} (h : (subR a b).2 = true) : valR (subR a b).1 = true := by
 unfold subR at h ⊢
 split at h
 ·next h1 => rw [if_pos h1]; exact ratOf_val h
 ·simp at h
theorem subR_no {a b : Int × Int} (h : (subR a b).2 = false) : (subR a b).1 = (0, 0) := by
 unfold subR at h ⊢
 split at h
 ·next h1 => rw [if_pos h1]; exact ratOf_fail h
 ·next h1 => rw [if_neg h1]
theorem valR_int {v : Int} (h : -1000000000 ≤ v ∧ v ≤ 1000000000) : valR (v, 1) = true := valR_mk (by simp) (by simp) (by simp only; omega) (by simp only; omega) (by simp only; rw [gI_nat]; simp)
theorem allV_cols {V : List Int} {n : Nat} (hn : V.length = n) (h1 : 1 ≤ n) (hV : ∀ y ∈ V, -500 ≤ y ∧ y ≤ 500) {L : List (Int × Int × Int)} : allV (stC V L) = (extE n L).all (fitC V) := by
 have h0 : stC V L = (frontC V (freeL L (n - 2))).map (fun c => c.2.2.2) ++ (extE n L).flatMap fun f => [costC V f, (-(costC V f).1, (costC V f).2)] := by
  unfold stC
  rw [← cols_ext hn h1 hV, List.map_append]
  congr 1
  unfold fixedC
  rw [List.map_flatMap]
  rfl
 have h2 : ((frontC V (freeL L (n - 2))).map fun c => c.2.2.2).all valR = true := by
  rw [List.all_eq_true]
  intro x hx
  obtain ⟨c, hc, rfl⟩ := List.mem_map.1 hx
  obtain ⟨s, _, rfl⟩ := List.mem_map.1 hc
  have := getD_bd hV s.toNat
  exact valR_int (by omega)
 unfold allV
 rw [h0, List.all_append, h2, Bool.true_and, List.all_flatMap]
 congr 1
 funext f
 unfold fitC
 cases hf : (subR f.2 (V[f.1.toNat]?.getD 0, 1)).2
 ·have := subR_no hf
  unfold costC
  rw [this]
  decide
 ·have := subR_val hf
  have h3 := valR_neg (subR f.2 (V[f.1.toNat]?.getD 0, 1)).1.1 (subR f.2 (V[f.1.toNat]?.getD 0, 1)).1.2
  unfold costC
  simp only [List.all_cons, List.all_nil, Bool.and_true]
  rw [h3, this]; rfl
theorem fixed_free (V : List Int) (E : List (Int × Int × Int)) : ∀ c ∈ fixedC V E, c.2.2.1 = false := by
 intro c hc
 obtain ⟨f, _, h2⟩ := List.mem_flatMap.1 hc
 simp only [twoC, List.mem_cons, List.not_mem_nil, or_false] at h2
 rcases h2 with rfl | rfl <;> rfl
theorem last_row (V : List Int) (fr : List Int) (E : List (Int × Int × Int)) (q : Nat) : List.replicate fr.length 1 ++ List.replicate (2 * E.length) 0 = rowC (frontC V fr ++ fixedC V E) q q := by
 unfold rowC
 rw [List.map_append]
 congr 1
 ·refine (List.eq_replicate_iff.2 ⟨by rw [List.length_map, frontC_len], fun x hx => ?_⟩).symm
  obtain ⟨c, hc, rfl⟩ := List.mem_map.1 hx
  obtain ⟨s, _, rfl⟩ := List.mem_map.1 hc
  simp [onC, bitI]
 ·refine (List.eq_replicate_iff.2 ⟨by rw [List.length_map, fixedC_len], fun x hx => ?_⟩).symm
  obtain ⟨c, hc, rfl⟩ := List.mem_map.1 hx
  have := fixed_free V E c hc
  simp [onC, this, bitI]
structure St3 (W Wc : World) (B z : Nat) (va : Value) (us rs : List Value) (A : List (List Int)) (vc : Value) (C : List (Int × Int)) : Prop where
 out : OwnV Wc B va us
 rows : RowsI Wc B rs A
 top : ∀ i k, i < A.length → (rs[i]?.getD undef).ownBlock = some k → k < z
 c : OwnR Wc B vc C
 ext : Ext W Wc
 hz : z ≤ Wc.heap.size
set_option maxRecDepth 100000
theorem stBx_is {p : Int} {V : List Int} {L : List (Int × Int × Int)} (h : stOk p V L = true) : stAx p V L = stA p.toNat V L ∧ stBx p V L = stB p.toNat ∧ stCx p V L = stC V L := by unfold stAx stBx stCx; rw [h]; exact ⟨rfl, rfl, rfl⟩
theorem stOk_ext {p : Int} {V : List Int} {L : List (Int × Int × Int)} {n : Nat} (hg : goodL p V L = true) (hn : V.length = n) (h1 : 1 ≤ n) (hV : ∀ y ∈ V, -500 ≤ y ∧ y ≤ 500) : stOk p V L = (extE n L).all (fitC V) := by
 unfold stOk; rw [hg, allV_cols hn h1 hV]; rfl
def nucLp (q : Nat) (V : List Int) (L : List (Int × Int × Int)) : LpR := solveG boundI (stA q V L) (stB q) (stC V L)
def newF (fr : List Int) (r : LpR) (k : Nat) : List (Int × Int × Int) := ((List.range k).filter fun j => decide (0 < (r.X[j]?.getD (0, 0)).1)).map fun j => (fr[j]?.getD 0, -r.value.1, r.value.2)
theorem newF_zero (fr : List Int) (r : LpR) : newF fr r 0 = [] := rfl
theorem newF_succ (fr : List Int) (r : LpR) (k : Nat) : newF fr r (k + 1) = newF fr r k ++ if 0 < (r.X[k]?.getD (0, 0)).1 then [(fr[k]?.getD 0, -r.value.1, r.value.2)] else [] := by
 unfold newF
 rw [List.range_succ, List.filter_append, List.map_append]
 congr 1
 by_cases h : 0 < (r.X[k]?.getD (0, 0)).1
 ·simp [h]
 ·simp [h]
def ptN (q : Nat) (r : LpR) : List (Int × Int) := (r.Y.take q).map negR
def frN (V : List Int) (L : List (Int × Int × Int)) : List Int := freeL L (V.length - 2)
def nextN (V : List Int) (L : List (Int × Int × Int)) (r : LpR) : List (Int × Int × Int) := L ++ newF (frN V L) r (frN V L).length
def doneN (p : Int) (V : List Int) (L : List (Int × Int × Int)) : Bool := decide (rankI p (((V.length : Int) - 1) :: L.map (·.1)) = p)
structure NucR where
 ok : Bool
 pt : List (Int × Int)
 st : List (Int × Int × Int)
 rounds : Nat
def NucR.no : NucR := ⟨false, [], [], 0⟩
def nucF (p : Int) (V : List Int) : Nat → List (Int × Int × Int) → Nat → NucR
 | 0, _, _ => NucR.no
 | f + 1, L, k =>
   if stOk p V L = true ∧ (nucLp p.toNat V L).status = 1 then
    (if doneN p V (nextN V L (nucLp p.toNat V L)) = true then ⟨true, ptN p.toNat (nucLp p.toNat V L), nextN V L (nucLp p.toNat V L), k + 1⟩
    else nucF p V f (nextN V L (nucLp p.toNat V L)) (k + 1))
   else NucR.no
def nucR (p : Int) (V : List Int) : NucR :=
 if gameOk p V = true then (if p = 1 then ⟨true, [(grandV p V, 1)], [], 0⟩ else nucF p V ((frN V []).length + 1) [] 0) else NucR.no
theorem sum_free (X : List (Int × Int)) (row : Nat → Int) (m : Nat) (h0 : ∀ j, m ≤ j → row j = 0) (hn : ∀ j, j < m → row j = 1) (hx : ∀ j, j < m → val (X[j]?.getD (0, 0)) ≤ 0) : ∀ N, sumN (fun j => ((row j : Int) : Rat) * val (X[j]?.getD (0, 0))) N ≤ 0
 | 0 => by simp [sumN]
 | N + 1 => by
   have ih := sum_free X row m h0 hn hx N
   simp only [sumN]
   by_cases h : N < m
   ·have := hx N h
    rw [hn N h]
    have e : ((1 : Int) : Rat) = 1 := by exact_mod_cast rfl
    rw [e]
    grind
   ·rw [h0 N (by omega)]
    have e : ((0 : Int) : Rat) = 0 := by exact_mod_cast rfl
    rw [e]
    grind
theorem vrow_whole (l : List Int) (j : Nat) : vrow (wholeL l) j = ((l[j]?.getD 0 : Int) : Rat) := by
 unfold vrow
 by_cases h : j < l.length
 ·rw [wholeL_at h, val_whole]
 ·rw [List.getElem?_eq_none (by rw [wholeL_len]; omega), List.getElem?_eq_none (by omega)]
  show val (0, 0) = ((0 : Int) : Rat)
  unfold val; grind
theorem game_cN {p : Int} {V : List Int} (h : gameOk p V = true) : 1 ≤ V.length ∧ V.length ≤ 32 ∧ p = (p.toNat : Int) ∧ 1 ≤ p.toNat ∧ p.toNat ≤ 5 ∧ ∀ y ∈ V, -500 ≤ y ∧ y ≤ 500 := by
 obtain ⟨n, rfl, h1, h5, hl, _, hV⟩ := gameOk_len h
 have e : (n : Int).toNat = n := by omega
 rw [e, hl]
 refine ⟨?_, ?_, rfl, h1, h5, hV⟩
 ·exact (cN_le n h5).1
 ·exact (cN_le n h5).2
theorem stOk_parts {p : Int} {V : List Int} {L : List (Int × Int × Int)} (h : stOk p V L = true) : gameOk p V = true ∧ 2 ≤ p ∧ ordX L ((V.length : Int) - 2) L.length = true ∧ 0 < (frN V L).length := by
 obtain ⟨h1, _⟩ := both h
 obtain ⟨h2, h3⟩ := both h1
 obtain ⟨h4, h5⟩ := both h3
 obtain ⟨h6, h7⟩ := both h5
 exact ⟨h2, of_decide_eq_true h4, h6, of_decide_eq_true h7⟩
theorem newF_some {p : Int} {V : List Int} {L : List (Int × Int × Int)} (h : stOk p V L = true) (hs : (nucLp p.toNat V L).status = 1) : newF (frN V L) (nucLp p.toNat V L) (frN V L).length ≠ [] := by
 intro hn
 obtain ⟨hg, _, _, _⟩ := stOk_parts h
 obtain ⟨h1, _, _, _, _, hV⟩ := game_cN hg
 obtain ⟨v1, _, v3, _⟩ := solveG_val hs
 obtain ⟨r, hr⟩ : ∃ r, r = nucLp p.toNat V L := ⟨_, rfl⟩
 have v3' : checkG boundI (stA p.toNat V L) (stB p.toNat) (stC V L) r = true := by rw [hr]; exact v3
 rw [← hr] at hs hn
 unfold checkG at v3'
 rw [if_pos hs] at v3'
 obtain ⟨f1, _⟩ := both v3'
 unfold feasB at f1
 obtain ⟨_, f2⟩ := both f1
 obtain ⟨_, f3⟩ := both f2
 unfold givesB at f3
 have f4 := List.all_eq_true.1 f3 p.toNat (List.mem_range.2 (by simp [stA]))
 have f5 := of_decide_eq_true f4
 have e1 : (stA p.toNat V L)[p.toNat]?.getD [] = List.replicate (frN V L).length 1 ++ List.replicate (2 * (extE V.length L).length) 0 := by
  unfold frN
  rw [last_row V (freeL L (V.length - 2)) (extE V.length L) p.toNat, cols_ext rfl h1 hV L]
  unfold stA
  rw [List.getElem?_map, List.getElem?_range (by omega), Option.map_some, Option.getD_some]
 have e2 : (stB p.toNat)[p.toNat]?.getD 0 = 1 := by
  unfold stB
  rw [List.getElem?_map, List.getElem?_range (by omega), Option.map_some, Option.getD_some]
  rw [show decide (p.toNat = p.toNat) = true from decide_eq_true rfl]; rfl
 rw [e1, e2] at f5
 obtain ⟨_, _, _, g4⟩ := dotL_spec f5
 have hx : ∀ j, j < (frN V L).length → val (r.X[j]?.getD (0, 0)) ≤ 0 := by
  intro j hj
  obtain ⟨_, _, g3, _⟩ := dotL_spec f5
  have hv := (g3 j (by rw [wholeL_len, List.length_append, List.length_replicate]; omega)).2
  have hnot : ¬ 0 < (r.X[j]?.getD (0, 0)).1 := by
   intro hp
   unfold newF at hn
   rw [List.map_eq_nil_iff, List.filter_eq_nil_iff] at hn
   exact hn j (List.mem_range.2 hj) (decide_eq_true hp)
  have hneg := (val_nonneg (p := negR (r.X[j]?.getD (0, 0))) (by rw [valR_negR]; exact hv)).1 (by show 0 ≤ -(r.X[j]?.getD (0, 0)).1; omega)
  rw [val_neg] at hneg
  grind
 have hle := sum_free r.X (fun j => (List.replicate (frN V L).length (1 : Int) ++ List.replicate (2 * (extE V.length L).length) 0)[j]?.getD 0) (frN V L).length (fun j hj => by
  show (List.replicate (frN V L).length (1 : Int) ++ List.replicate (2 * (extE V.length L).length) 0)[j]?.getD 0 = 0
  rw [List.getElem?_append_right (by rw [List.length_replicate]; exact hj), List.getElem?_replicate]
  split <;> rfl) (fun j hj => by
  show (List.replicate (frN V L).length (1 : Int) ++ List.replicate (2 * (extE V.length L).length) 0)[j]?.getD 0 = 1
  rw [List.getElem?_append_left (by rw [List.length_replicate]; exact hj), List.getElem?_replicate, if_pos hj]; rfl) hx (wholeL (List.replicate (frN V L).length (1 : Int) ++ List.replicate (2 * (extE V.length L).length) 0)).length
 have e3 : val ((1 : Int), (1 : Int)) = 1 := by rw [val_whole]; exact_mod_cast rfl
 rw [e3] at g4
 have e4 : sumN (fun j => vrow (wholeL (List.replicate (frN V L).length (1 : Int) ++ List.replicate (2 * (extE V.length L).length) 0)) j * vrow r.X j) (wholeL (List.replicate (frN V L).length (1 : Int) ++ List.replicate (2 * (extE V.length L).length) 0)).length = sumN (fun j => (((List.replicate (frN V L).length (1 : Int) ++ List.replicate (2 * (extE V.length L).length) 0)[j]?.getD 0 : Int) : Rat) * val (r.X[j]?.getD (0, 0))) (wholeL (List.replicate (frN V L).length (1 : Int) ++ List.replicate (2 * (extE V.length L).length) 0)).length :=
  sumN_congr fun j _ => by rw [vrow_whole]; rfl
 rw [e4] at g4
 have h10 : (1 : Rat) ≤ 0 := by rw [g4]; exact hle
 exact absurd h10 (by decide)
theorem newF_mem {fr : List Int} {r : LpR} {k : Nat} (hk : k ≤ fr.length) {f : Int × Int × Int} (h : f ∈ newF fr r k) : f.1 ∈ fr := by
 unfold newF at h
 obtain ⟨j, hj, rfl⟩ := List.mem_map.1 h
 have := List.mem_range.1 (List.mem_filter.1 hj).1
 have hl : j < fr.length := by omega
 show fr[j]?.getD 0 ∈ fr
 rw [List.getElem?_eq_getElem hl, Option.getD_some]
 exact List.getElem_mem hl
theorem newF_len (fr : List Int) (r : LpR) (k : Nat) : (newF fr r k).length ≤ k := by
 unfold newF
 rw [List.length_map]
 have := List.length_filter_le (fun j => decide (0 < (r.X[j]?.getD (0, 0)).1)) (List.range k)
 rw [List.length_range] at this
 exact this
theorem free_more {L T : List (Int × Int × Int)} {m : Nat} (hT : T ≠ []) (hm : ∀ f ∈ T, f.1 ∈ freeL L m) : (freeL (L ++ T) m).length < (freeL L m).length := by
 have e : freeL (L ++ T) m = (freeL L m).filter fun s => !hasX T s := by
  unfold freeL
  rw [List.filter_filter]
  refine List.filter_congr fun s _ => ?_
  unfold hasX
  rw [List.any_append]
  cases L.any _ <;> cases T.any _ <;> rfl
 rw [e, List.length_filter_lt_length_iff_exists]
 obtain ⟨f, hf⟩ := List.exists_mem_of_ne_nil T hT
 refine ⟨f.1, hm f hf, ?_⟩
 have : hasX T f.1 = true := List.any_eq_true.2 ⟨f, hf, by simp⟩
 rw [this]; decide
theorem next_fewer {p : Int} {V : List Int} {L : List (Int × Int × Int)} (h : stOk p V L = true) (hs : (nucLp p.toNat V L).status = 1) : (frN V (nextN V L (nucLp p.toNat V L))).length < (frN V L).length :=
 free_more (newF_some h hs) fun _ hf => newF_mem (Nat.le_refl _) hf
theorem fixed_pair (V : List Int) : ∀ (E : List (Int × Int × Int)) (i : Nat) (c : Col), (fixedC V E)[i]? = some c → ∃ i' : Nat, (fixedC V E)[i']? = some (c.1, -c.2.1, c.2.2.1, -c.2.2.2.1, c.2.2.2.2)
 | [], i, c, h => by simp [fixedC] at h
 | f :: E, 0, c, h => by
   simp only [fixedC, List.flatMap_cons, twoC, List.cons_append, List.getElem?_cons_zero, Option.some.injEq] at h
   subst h
   exact ⟨1, by simp [fixedC, twoC]⟩
 | f :: E, 1, c, h => by
   simp only [fixedC, List.flatMap_cons, twoC, List.cons_append, List.getElem?_cons_succ, List.getElem?_cons_zero, Option.some.injEq] at h
   subst h
   exact ⟨0, by simp [fixedC, twoC]⟩
 | f :: E, i + 2, c, h => by
   simp only [fixedC, List.flatMap_cons, twoC, List.cons_append, List.nil_append, List.getElem?_cons_succ] at h
   obtain ⟨i', h'⟩ := fixed_pair V E i c h
   exact ⟨i' + 2, by simp only [fixedC, List.flatMap_cons, twoC, List.cons_append, List.nil_append, List.getElem?_cons_succ]; exact h'⟩
theorem colL_st {q : Nat} {V : List Int} {L : List (Int × Int × Int)} {j : Nat} {c : Col} (h : (colsL V L)[j]? = some c) : colL (stA q V L) j = (List.range (q + 1)).map fun k => c.2.1 * bitI (onC q k c) := by
 unfold colL stA
 rw [List.map_map]
 refine List.map_congr_left fun k _ => ?_
 show ((colsL V L).map fun c => c.2.1 * bitI (onC q k c))[j]?.getD 0 = _
 rw [List.getElem?_map, h]; rfl
theorem stC_at {V : List Int} {L : List (Int × Int × Int)} {j : Nat} {c : Col} (h : (colsL V L)[j]? = some c) : (stC V L)[j]?.getD (0, 0) = c.2.2.2 := by
 unfold stC
 rw [List.getElem?_map, h]; rfl
theorem st_nice {p : Int} {V : List Int} {L : List (Int × Int × Int)} (h : stOk p V L = true) (j : Nat) (hj : j < (stC V L).length) : niceC (stA p.toNat V L) (stC V L) j := by
 obtain ⟨hg, _, _, _⟩ := stOk_parts h
 obtain ⟨h1, _, _, _, _, hV⟩ := game_cN hg
 have hce := cols_ext rfl h1 hV L
 have hj' : j < (colsL V L).length := by unfold stC at hj; rw [List.length_map] at hj; exact hj
 obtain ⟨c, hc⟩ : ∃ c, (colsL V L)[j]? = some c := ⟨_, List.getElem?_eq_getElem hj'⟩
 by_cases hf : j < (frontC V (freeL L (V.length - 2))).length
 ·refine Or.inl ⟨-(V[((freeL L (V.length - 2))[j]?.getD 0).toNat]?.getD 0), ?_, ?_⟩
  ·rw [stC_at hc]
   rw [← hce, List.getElem?_append_left hf] at hc
   unfold frontC at hc
   rw [frontC_len] at hf
   rw [List.getElem?_map, List.getElem?_eq_getElem hf, Option.map_some, Option.some.injEq] at hc
   rw [← hc, List.getElem?_eq_getElem hf, Option.getD_some]
  ·have := game_bound hg ((freeL L (V.length - 2))[j]?.getD 0).toNat
   omega
 ·refine Or.inr ?_
  have hc' := hc
  rw [← hce, List.getElem?_append_right (by omega)] at hc'
  obtain ⟨i', hi'⟩ := fixed_pair V _ _ _ hc'
  have hi : (colsL V L)[(frontC V (freeL L (V.length - 2))).length + i']? = some (c.1, -c.2.1, c.2.2.1, -c.2.2.2.1, c.2.2.2.2) := by
   rw [← hce, List.getElem?_append_right (by omega), Nat.add_sub_cancel_left]; exact hi'
  refine ⟨(frontC V (freeL L (V.length - 2))).length + i', ?_, ?_, ?_⟩
  ·have := (List.getElem?_eq_some_iff.1 hi).1
   unfold stC; rw [List.length_map]; exact this
  ·rw [stC_at hi, stC_at hc]; rfl
  ·rw [colL_st hi, colL_st hc, List.map_map]
   refine List.map_congr_left fun k _ => ?_
   show -c.2.1 * bitI (onC p.toNat k c) = -(c.2.1 * bitI (onC p.toNat k c))
   rw [Int.neg_mul]
theorem nuc_both {p : Int} {V : List Int} {L : List (Int × Int × Int)} (h : stOk p V L = true) : nucLp p.toNat V L = solveS (stA p.toNat V L) (stB p.toNat) (stC V L) := solve_both fun _ j hj => st_nice h j hj
theorem nuc_sizes {p : Int} {V : List Int} {L : List (Int × Int × Int)} (h : stOk p V L = true) (hs : (nucLp p.toNat V L).status = 1) :
 (frN V L).length ≤ (nucLp p.toNat V L).X.length ∧ (nucLp p.toNat V L).Y.length = p.toNat + 1 ∧ valR (nucLp p.toNat V L).value = true ∧ ∀ k, k < (nucLp p.toNat V L).Y.length → valR ((nucLp p.toNat V L).Y[k]?.getD (0, 0)) = true := by
 obtain ⟨v1, _, v3, v4, v5, v6⟩ := solveG_val hs
 refine ⟨?_, by rw [show (nucLp p.toNat V L).Y.length = (stB p.toNat).length from v4]; simp [stB], v5, v6⟩
 have v3' : checkG boundI (stA p.toNat V L) (stB p.toNat) (stC V L) (nucLp p.toNat V L) = true := v3
 unfold checkG at v3'
 rw [if_pos hs] at v3'
 obtain ⟨f1, _⟩ := both v3'
 unfold feasB at f1
 have hl := of_decide_eq_true (both f1).1
 rw [hl]
 unfold stC colsL frN
 rw [List.length_map, List.length_append, List.length_append, frontC_len]
 omega
theorem nucF_no {p : Int} {V : List Int} {f k : Nat} {L : List (Int × Int × Int)} (h : ¬(stOk p V L = true ∧ (nucLp p.toNat V L).status = 1)) : nucF p V f L k = NucR.no := by
 cases f with
 | zero => rfl
 | succ f => unfold nucF; rw [if_neg h]
theorem next_bd {V : List Int} {L : List (Int × Int × Int)} {r : LpR} (hn : V.length ≤ 32) (h : ∀ f ∈ L, f.1 ≤ 1000) {k : Nat} (hk : L.length ≤ 32 * k) : (∀ f ∈ nextN V L r, f.1 ≤ 1000) ∧ (nextN V L r).length ≤ 32 * (k + 1) := by
 refine ⟨fun f hf => ?_, ?_⟩
 ·rcases List.mem_append.1 hf with h1 | h1
  ·exact h f h1
  ·have := (freeL_mem (newF_mem (Nat.le_refl _) h1)).2.1
   omega
 ·unfold nextN
  rw [List.length_append]
  have h1 := newF_len (frN V L) r (frN V L).length
  have h2 : (frN V L).length ≤ V.length - 2 := freeL_len L (V.length - 2)
  omega
end Go.Proofs.YthjjfkeacobikaaGreat
