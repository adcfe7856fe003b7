import Derived.Test.YtgohdmnbnhehnaaGreatFnAllG7
import Derived.Test.YtgohdmnbnhehnaaGreatFnAllG12
import Derived.Test.YtgohdmnbnhehnaaGreatFnAllG6
import Derived.Test.YtgohdmnbnhehnaaGreatFnAllG33
import Derived.Test.YtgohdmnbnhehnaaGreatFnAllG2
import Derived.Test.YtgohdmnbnhehnaaGreatFnAllG5
import Derived.Test.YtgohdmnbnhehnaaGreatFnAllG1
namespace Go.Proofs.YtgohdmnbnhehnaaGreat
set_option linter.unusedVariables false
open Go.RowKit
theorem runM_le (e : Nat → List Int → List Int → List Int) (M : List (List Int)) : ∀ n, (runM e M n).2 ≤ n
 | 0 => Nat.le_refl _
 | n + 1 => by
   have ih := runM_le e M n
   unfold runM colM
   split
   ·show (runM e M n).2 + 1 ≤ n + 1; omega
   ·omega
theorem rankI_le {p : Int} (h : 1 ≤ p) (l : List Int) : rankI p l ≤ p := by
 unfold rankI
 split
 ·have := runM_le elimI (l.map (digR p.toNat)) p.toNat; omega
 ·omega
def nucLp (q : Nat) (V : List Int) (L : List (Int × Int × Int)) : LpR := solveG boundI (stA q V L) (stB q) (stC V L)
def newF (fr : List Int) (r : LpR) (k : Nat) : List (Int × Int × Int) := ((List.range k).filter fun j => decide (0 < (r.X[j]?.getD (0, 0)).1)).map fun j => (fr[j]?.getD 0, -r.value.1, r.value.2)
theorem newF_zero (fr : List Int) (r : LpR) : newF fr r 0 = [] := rfl
theorem newF_succ (fr : List Int) (r : LpR) (k : Nat) : newF fr r (k + 1) = newF fr r k ++ if 0 < (r.X[k]?.getD (0, 0)).1 then [(fr[k]?.getD 0, -r.value.1, r.value.2)] else [] := by
 unfold newF
 rw [List.range_succ, List.filter_append, List.map_append]
 congr 1
 by_cases h : 0 < (r.X[k]?.getD (0, 0)).1
 ·simp [h]
 ·simp [h]
def ptN (q : Nat) (r : LpR) : List (Int × Int) := (r.Y.take q).map negR
def frN (V : List Int) (L : List (Int × Int × Int)) : List Int := freeL L (V.length - 2)
def nextN (V : List Int) (L : List (Int × Int × Int)) (r : LpR) : List (Int × Int × Int) := L ++ newF (frN V L) r (frN V L).length
def doneN (p : Int) (V : List Int) (L : List (Int × Int × Int)) : Bool := decide (rankI p (((V.length : Int) - 1) :: L.map (·.1)) = p)
structure NucR where
 ok : Bool
 pt : List (Int × Int)
 st : List (Int × Int × Int)
 rounds : Nat
def NucR.no : NucR := ⟨false, [], [], 0⟩
def nucF (p : Int) (V : List Int) : Nat → List (Int × Int × Int) → Nat → NucR
 | 0, _, _ => NucR.no
 | f + 1, L, k =>
   if stOk p V L = true ∧ (nucLp p.toNat V L).status = 1 then
    (if doneN p V (nextN V L (nucLp p.toNat V L)) = true then ⟨true, ptN p.toNat (nucLp p.toNat V L), nextN V L (nucLp p.toNat V L), k + 1⟩
    else nucF p V f (nextN V L (nucLp p.toNat V L)) (k + 1))
   else NucR.no
def nucR (p : Int) (V : List Int) : NucR :=
 if gameOk p V = true then (if p = 1 then ⟨true, [(grandV p V, 1)], [], 0⟩ else nucF p V ((frN V []).length + 1) [] 0) else NucR.no
theorem sum_free (X : List (Int × Int)) (row : Nat → Int) (m : Nat) (h0 : ∀ j, m ≤ j → row j = 0) (hn : ∀ j, j < m → row j = 1) (hx : ∀ j, j < m → val (X[j]?.getD (0, 0)) ≤ 0) : ∀ N, sumN (fun j => ((row j : Int) : Rat) * val (X[j]?.getD (0, 0))) N ≤ 0
 | 0 => by simp [sumN]
 | N + 1 => by
   have ih := sum_free X row m h0 hn hx N
   simp only [sumN]
   by_cases h : N < m
   ·have := hx N h
    rw [hn N h]
    have e : ((1 : Int) : Rat) = 1 := by exact_mod_cast rfl
    rw [e]
    grind
   ·rw [h0 N (by omega)]
    have e : ((0 : Int) : Rat) = 0 := by exact_mod_cast rfl
    rw [e]
    grind
theorem vrow_whole (l : List Int) (j : Nat) : vrow (wholeL l) j = ((l[j]?.getD 0 : Int) : Rat) := by
 unfold vrow
 by_cases h : j < l.length
 ·rw [wholeL_at h, val_whole]
 ·rw [List.getElem?_eq_none (by rw [wholeL_len]; omega), List.getElem?_eq_none (by omega)]
  show val (0, 0) = ((0 : Int) : Rat)
  unfold val; grind
theorem game_cN {p : Int} {V : List Int} (h : gameOk p V = true) : 1 ≤ V.length ∧ V.length ≤ 32 ∧ p = (p.toNat : Int) ∧ 1 ≤ p.toNat ∧ p.toNat ≤ 5 ∧ ∀ y ∈ V, -500 ≤ y ∧ y ≤ 500 := by
 obtain ⟨n, rfl, h1, h5, hl, _, hV⟩ := gameOk_len h
 have e : (n : Int).toNat = n := by omega
 rw [e, hl]
 refine ⟨?_, ?_, rfl, h1, h5, hV⟩
 ·exact (cN_le n h5).1
 ·exact (cN_le n h5).2
theorem stOk_parts {p : Int} {V : List Int} {L : List (Int × Int × Int)} (h : stOk p V L = true) : gameOk p V = true ∧ 2 ≤ p ∧ ordX L ((V.length : Int) - 2) L.length = true ∧ 0 < (frN V L).length := by
 obtain ⟨h1, _⟩ := both h
 obtain ⟨h2, h3⟩ := both h1
 obtain ⟨h4, h5⟩ := both h3
 obtain ⟨h6, h7⟩ := both h5
 exact ⟨h2, of_decide_eq_true h4, h6, of_decide_eq_true h7⟩
theorem newF_some {p : Int} {V : List Int} {L : List (Int × Int × Int)} (h : stOk p V L = true) (hs : (nucLp p.toNat V L).status = 1) : newF (frN V L) (nucLp p.toNat V L) (frN V L).length ≠ [] := by
 intro hn
 obtain ⟨hg, _, _, _⟩ := stOk_parts h
 obtain ⟨h1, _, _, _, _, hV⟩ := game_cN hg
 obtain ⟨v1, _, v3, _⟩ := solveG_val hs
 obtain ⟨r, hr⟩ : ∃ r, r = nucLp p.toNat V L := ⟨_, rfl⟩
 have v3' : checkG boundI (stA p.toNat V L) (stB p.toNat) (stC V L) r = true := by rw [hr]; exact v3
 rw [← hr] at hs hn
 unfold checkG at v3'
 rw [if_pos hs] at v3'
 obtain ⟨f1, _⟩ := both v3'
 unfold feasB at f1
 obtain ⟨_, f2⟩ := both f1
 obtain ⟨_, f3⟩ := both f2
 unfold givesB at f3
 have f4 := List.all_eq_true.1 f3 p.toNat (List.mem_range.2 (by simp [stA]))
 have f5 := of_decide_eq_true f4
 have e1 : (stA p.toNat V L)[p.toNat]?.getD [] = List.replicate (frN V L).length 1 ++ List.replicate (2 * (extE V.length L).length) 0 := by
  unfold frN
  rw [last_row V (freeL L (V.length - 2)) (extE V.length L) p.toNat, cols_ext rfl h1 hV L]
  unfold stA
  rw [List.getElem?_map, List.getElem?_range (by omega), Option.map_some, Option.getD_some]
 have e2 : (stB p.toNat)[p.toNat]?.getD 0 = 1 := by
  unfold stB
  rw [List.getElem?_map, List.getElem?_range (by omega), Option.map_some, Option.getD_some]
  rw [show decide (p.toNat = p.toNat) = true from decide_eq_true rfl]; rfl
 rw [e1, e2] at f5
 obtain ⟨_, _, _, g4⟩ := dotL_spec f5
 have hx : ∀ j, j < (frN V L).length → val (r.X[j]?.getD (0, 0)) ≤ 0 := by
  intro j hj
  obtain ⟨_, _, g3, _⟩ := dotL_spec f5
  have hv := (g3 j (by rw [wholeL_len, List.length_append, List.length_replicate]; omega)).2
  have hnot : ¬ 0 < (r.X[j]?.getD (0, 0)).1 := by
   intro hp
   unfold newF at hn
   rw [List.map_eq_nil_iff, List.filter_eq_nil_iff] at hn
   exact hn j (List.mem_range.2 hj) (decide_eq_true hp)
  have hneg := (val_nonneg (p := negR (r.X[j]?.getD (0, 0))) (by rw [valR_negR]; exact hv)).1 (by show 0 ≤ -(r.X[j]?.getD (0, 0)).1; omega)
  rw [val_neg] at hneg
  grind
 have hle := sum_free r.X (fun j => (List.replicate (frN V L).length (1 : Int) ++ List.replicate (2 * (extE V.length L).length) 0)[j]?.getD 0) (frN V L).length (fun j hj => by
  show (List.replicate (frN V L).length (1 : Int) ++ List.replicate (2 * (extE V.length L).length) 0)[j]?.getD 0 = 0
  rw [List.getElem?_append_right (by rw [List.length_replicate]; exact hj), List.getElem?_replicate]
  split <;> rfl) (fun j hj => by
  show (List.replicate (frN V L).length (1 : Int) ++ List.replicate (2 * (extE V.length L).length) 0)[j]?.getD 0 = 1
  rw [List.getElem?_append_left (by rw [List.length_replicate]; exact hj), List.getElem?_replicate, if_pos hj]; rfl) hx (wholeL (List.replicate (frN V L).length (1 : Int) ++ List.replicate (2 * (extE V.length L).length) 0)).length
 have e3 : val ((1 : Int), (1 : Int)) = 1 := by rw [val_whole]; exact_mod_cast rfl
 rw [e3] at g4
 have e4 : sumN (fun j => vrow (wholeL (List.replicate (frN V L).length (1 : Int) ++ List.replicate (2 * (extE V.length L).length) 0)) j * vrow r.X j) (wholeL (List.replicate (frN V L).length (1 : Int) ++ List.replicate (2 * (extE V.length L).length) 0)).length = sumN (fun j => (((List.replicate (frN V L).length (1 : Int) ++ List.replicate (2 * (extE V.length L).length) 0)[j]?.getD 0 : Int) : Rat) * val (r.X[j]?.getD (0, 0))) (wholeL (List.replicate (frN V L).length (1 : Int) ++ List.replicate (2 * (extE V.length L).length) 0)).length :=
  sumN_congr fun j _ => by rw [vrow_whole]; rfl
 rw [e4] at g4
 have h10 : (1 : Rat) ≤ 0 := by rw [g4]; exact hle
 exact absurd h10 (by decide)
theorem newF_mem {fr : List Int} {r : LpR} {k : Nat} (hk : k ≤ fr.length) {f : Int × Int × Int} (h : f ∈ newF fr r k) : f.1 ∈ fr := by
 unfold newF at h
 obtain ⟨j, hj, rfl⟩ := List.mem_map.1 h
 have := List.mem_range.1 (List.mem_filter.1 hj).1
 have hl : j < fr.length := by omega
 show fr[j]?.getD 0 ∈ fr
 rw [List.getElem?_eq_getElem hl, Option.getD_some]
 exact List.getElem_mem hl
theorem newF_len (fr : List Int) (r : LpR) (k : Nat) : (newF fr r k).length ≤ k := by
 unfold newF
 rw [List.length_map]
 have := List.length_filter_le (fun j => decide (0 < (r.X[j]?.getD (0, 0)).1)) (List.range k)
 rw [List.length_range] at this
 exact this
theorem free_more {L T : List (Int × Int × Int)} {m : Nat} (hT : T ≠ []) (hm : ∀ f ∈ T, f.1 ∈ freeL L m) : (freeL (L ++ T) m).length < (freeL L m).length := by
 have e : freeL (L ++ T) m = (freeL L m).filter fun s => !hasX T s := by
  unfold freeL
  rw [List.filter_filter]
  refine List.filter_congr fun s _ => ?_
  unfold hasX
  rw [List.any_append]
  cases L.any _ <;> cases T.any _ <;> rfl
 rw [e, List.length_filter_lt_length_iff_exists]
 obtain ⟨f, hf⟩ := List.exists_mem_of_ne_nil T hT
 refine ⟨f.1, hm f hf, ?_⟩
 have : hasX T f.1 = true := List.any_eq_true.2 ⟨f, hf, by simp⟩
 rw [this]; decide
theorem next_fewer {p : Int} {V : List Int} {L : List (Int × Int × Int)} (h : stOk p V L = true) (hs : (nucLp p.toNat V L).status = 1) : (frN V (nextN V L (nucLp p.toNat V L))).length < (frN V L).length :=
 free_more (newF_some h hs) fun _ hf => newF_mem (Nat.le_refl _) hf
theorem fixed_pair (V : List Int) : ∀ (E : List (Int × Int × Int)) (i : Nat) (c : Col), (fixedC V E)[i]? = some c → ∃ i' : Nat, (fixedC V E)[i']? = some (c.1, -c.2.1, c.2.2.1, -c.2.2.2.1, c.2.2.2.2)
 | [], i, c, h => by simp [fixedC] at h
 | f :: E, 0, c, h => by
   simp only [fixedC, List.flatMap_cons, twoC, List.cons_append, List.getElem?_cons_zero, Option.some.injEq] at h
   subst h
   exact ⟨1, by simp [fixedC, twoC]⟩
 | f :: E, 1, c, h => by
   simp only [fixedC, List.flatMap_cons, twoC, List.cons_append, List.getElem?_cons_succ, List.getElem?_cons_zero, Option.some.injEq] at h
   subst h
   exact ⟨0, by simp [fixedC, twoC]⟩
 | f :: E, i + 2, c, h => by
   simp only [fixedC, List.flatMap_cons, twoC, List.cons_append, List.nil_append, List.getElem?_cons_succ] at h
   obtain ⟨i', h'⟩ := fixed_pair V E i c h
   exact ⟨i' + 2, by simp only [fixedC, List.flatMap_cons, twoC, List.cons_append, List.nil_append, List.getElem?_cons_succ]; exact h'⟩
theorem colL_st {q : Nat} {V : List Int} {L : List (Int × Int × Int)} {j : Nat} {c : Col} (h : (colsL V L)[j]? = some c) : colL (stA q V L) j = (List.range (q + 1)).map fun k => c.2.1 * bitI (onC q k c) := by
 unfold colL stA
 rw [List.map_map]
 refine List.map_congr_left fun k _ => ?_
 show ((colsL V L).map fun c => c.2.1 * bitI (onC q k c))[j]?.getD 0 = _
 rw [List.getElem?_map, h]; rfl
theorem stC_at {V : List Int} {L : List (Int × Int × Int)} {j : Nat} {c : Col} (h : (colsL V L)[j]? = some c) : (stC V L)[j]?.getD (0, 0) = c.2.2.2 := by
 unfold stC
 rw [List.getElem?_map, h]; rfl
theorem st_nice {p : Int} {V : List Int} {L : List (Int × Int × Int)} (h : stOk p V L = true) (j : Nat) (hj : j < (stC V L).length) : niceC (stA p.toNat V L) (stC V L) j := by
 obtain ⟨hg, _, _, _⟩ := stOk_parts h
 obtain ⟨h1, _, _, _, _, hV⟩ := game_cN hg
 have hce := cols_ext rfl h1 hV L
 have hj' : j < (colsL V L).length := by unfold stC at hj; rw [List.length_map] at hj; exact hj
 obtain ⟨c, hc⟩ : ∃ c, (colsL V L)[j]? = some c := ⟨_, List.getElem?_eq_getElem hj'⟩
 by_cases hf : j < (frontC V (freeL L (V.length - 2))).length
 ·refine Or.inl ⟨-(V[((freeL L (V.length - 2))[j]?.getD 0).toNat]?.getD 0), ?_, ?_⟩
  ·rw [stC_at hc]
   rw [← hce, List.getElem?_append_left hf] at hc
   unfold frontC at hc
   rw [frontC_len] at hf
   rw [List.getElem?_map, List.getElem?_eq_getElem hf, Option.map_some, Option.some.injEq] at hc
   rw [← hc, List.getElem?_eq_getElem hf, Option.getD_some]
  ·have := game_bound hg ((freeL L (V.length - 2))[j]?.getD 0).toNat
   omega
 ·refine Or.inr ?_
  have hc' := hc
  rw [← hce, List.getElem?_append_right (by omega)] at hc'
  obtain ⟨i', hi'⟩ := fixed_pair V _ _ _ hc'
  have hi : (colsL V L)[(frontC V (freeL L (V.length - 2))).length + i']? = some (c.1, -c.2.1, c.2.2.1, -c.2.2.2.1, c.2.2.2.2) := by
   rw [← hce, List.getElem?_append_right (by omega), Nat.add_sub_cancel_left]; exact hi'
  refine ⟨(frontC V (freeL L (V.length - 2))).length + i', ?_, ?_, ?_⟩
  ·have := (List.getElem?_eq_some_iff.1 hi).1
   unfold stC; rw [List.length_map]; exact this
  ·rw [stC_at hi, stC_at hc]; rfl
  ·rw [colL_st hi, colL_st hc, List.map_map]
   refine List.map_congr_left fun k _ => ?_
   show -c.2.1 * bitI (onC p.toNat k c) = -(c.2.1 * bitI (onC p.toNat k c))
   rw [Int.neg_mul]
theorem nuc_both {p : Int} {V : List Int} {L : List (Int × Int × Int)} (h : stOk p V L = true) : nucLp p.toNat V L = solveS (stA p.toNat V L) (stB p.toNat) (stC V L) := solve_both fun _ j hj => st_nice h j hj
theorem rank_first {p : Int} {V : List Int} (h : gameOk p V = true) (h2 : 2 ≤ p) (s : Int) : rankI p [s] < p := by
 obtain ⟨_, _, hp, _, h5, _⟩ := game_cN h
 unfold rankI
 rw [if_pos (by unfold inB; simp only [Bool.and_eq_true, decide_eq_true_eq]; omega)]
 have := (runM_ok tame_I (good_dig p.toNat [s]) p.toNat (by omega)).2.2.1
 have e : ([s].map (digR p.toNat)).length = 1 := rfl
 rw [e] at this
 omega
theorem nuc_sizes {p : Int} {V : List Int} {L : List (Int × Int × Int)} (h : stOk p V L = true) (hs : (nucLp p.toNat V L).status = 1) :
 (frN V L).length ≤ (nucLp p.toNat V L).X.length ∧ (nucLp p.toNat V L).Y.length = p.toNat + 1 ∧ valR (nucLp p.toNat V L).value = true ∧ ∀ k, k < (nucLp p.toNat V L).Y.length → valR ((nucLp p.toNat V L).Y[k]?.getD (0, 0)) = true := by
 obtain ⟨v1, _, v3, v4, v5, v6⟩ := solveG_val hs
 refine ⟨?_, by rw [show (nucLp p.toNat V L).Y.length = (stB p.toNat).length from v4]; simp [stB], v5, v6⟩
 have v3' : checkG boundI (stA p.toNat V L) (stB p.toNat) (stC V L) (nucLp p.toNat V L) = true := v3
 unfold checkG at v3'
 rw [if_pos hs] at v3'
 obtain ⟨f1, _⟩ := both v3'
 unfold feasB at f1
 have hl := of_decide_eq_true (both f1).1
 rw [hl]
 unfold stC colsL frN
 rw [List.length_map, List.length_append, List.length_append, frontC_len]
 omega
theorem nucF_no {p : Int} {V : List Int} {f k : Nat} {L : List (Int × Int × Int)} (h : ¬(stOk p V L = true ∧ (nucLp p.toNat V L).status = 1)) : nucF p V f L k = NucR.no := by
 cases f with
 | zero => rfl
 | succ f => unfold nucF; rw [if_neg h]
def nucS (p : Int) (V : List Int) (f : Nat) (pt : List (Int × Int)) (L : List (Int × Int × Int)) (k : Nat) : NucR := if doneN p V L = true then ⟨true, pt, L, k⟩ else nucF p V f L k
theorem nucS_start {p : Int} {V : List Int} (hg : gameOk p V = true) (h2 : 2 ≤ p) : nucS p V ((frN V []).length + 1) [] [] 0 = nucR p V := by
 have hd : doneN p V [] = false := by
  unfold doneN
  have := rank_first hg h2 ((V.length : Int) - 1)
  exact decide_eq_false (by show ¬ rankI p [(V.length : Int) - 1] = p; omega)
 unfold nucS nucR
 rw [hd, if_pos hg, if_neg (by simp), if_neg (by omega)]
theorem nucS_step {p : Int} {V : List Int} {f k : Nat} {pt : List (Int × Int)} {L : List (Int × Int × Int)} (hd : doneN p V L = false) (h : stOk p V L = true) (hs : (nucLp p.toNat V L).status = 1) :
 nucS p V (f + 1) pt L k = nucS p V f (ptN p.toNat (nucLp p.toNat V L)) (nextN V L (nucLp p.toNat V L)) (k + 1) := by
 unfold nucS
 rw [hd, if_neg (by simp)]
 conv => lhs; unfold nucF
 rw [if_pos ⟨h, hs⟩]
theorem nucS_no {p : Int} {V : List Int} {f k : Nat} {pt : List (Int × Int)} {L : List (Int × Int × Int)} (hd : doneN p V L = false) (h : ¬(stOk p V L = true ∧ (nucLp p.toNat V L).status = 1)) : nucS p V f pt L k = NucR.no := by
 unfold nucS
 rw [hd, if_neg (by simp), nucF_no h]
theorem nucS_done {p : Int} {V : List Int} {f k : Nat} {pt : List (Int × Int)} {L : List (Int × Int × Int)} (hd : doneN p V L = true) : nucS p V f pt L k = ⟨true, pt, L, k⟩ := by
 unfold nucS
 rw [hd, if_pos rfl]
theorem next_bd {V : List Int} {L : List (Int × Int × Int)} {r : LpR} (hn : V.length ≤ 32) (h : ∀ f ∈ L, f.1 ≤ 1000) {k : Nat} (hk : L.length ≤ 32 * k) : (∀ f ∈ nextN V L r, f.1 ≤ 1000) ∧ (nextN V L r).length ≤ 32 * (k + 1) := by
 refine ⟨fun f hf => ?_, ?_⟩
 ·rcases List.mem_append.1 hf with h1 | h1
  ·exact h f h1
  ·have := (freeL_mem (newF_mem (Nat.le_refl _) h1)).2.1
   omega
 ·unfold nextN
  rw [List.length_append]
  have h1 := newF_len (frN V L) r (frN V L).length
  have h2 : (frN V L).length ≤ V.length - 2 := freeL_len L (V.length - 2)
  omega
set_option linter.unusedSimpArgs false
set_option maxRecDepth 100000
def AsksR (P : Program) (w : World) (fid : FuncId) (ca : Array Value) (p : Int × Int → Bool) : Prop :=
 ∀ x y (w1 : World), Ext w w1 → Calls P fid (#[ratV x y] ++ ca) w1 fun e w2 => e = .returned (.bool (p (x, y))) ∧ Ext w1 w2
set_option maxHeartbeats 1000000 in
theorem indexFunc_rats {w : World} {a : Option Addr} {n cap : Nat} {l : List (Int × Int)} {fid : FuncId} {ca : Array Value} {p : Int × Int → Bool} (h : Rats w a n cap l) (hg : IsGo Tryz.prog fid) (hf : AsksR Tryz.prog w fid ca p) :
 Calls Tryz.prog 246 #[.slice a n cap, .func (.func fid) #[] ca] w fun e w' => e = .returned (.int .i64 (indexF p l)) ∧ Ext w w' := by
 have hn := h.hcap
 have hm := h.hmax
 have HL := Lib.hid h.hlen
 have HI := Lib.hid h
 have HF0 := Lib.hid hf
 clear h hf
 have hcf : ∀ (args : Array Value) (w : World), (callFunc fid args).run Tryz.prog w = .ok (.enter fid args) w := hg
 go_enter Tryz.func246, Tryz.ntmps246
 go_wp2_with fail
 go_loopg [8] n (fun gk ii wr => ∃ k : Nat, Hid (gk + k = n) ∧ ii = .int .i64 (k : Int) ∧ Hid ((l.take k).all (fun x => !p x) = true) ∧ Hid (Ext w wr))
 case atStart => exact ⟨0, Lib.hid (by omega), rfl, Lib.hid rfl, Lib.hid (Ext.refl _)⟩
 case round =>
  obtain ⟨g1, h_g1⟩ : ∃ x, x = gk := ⟨_, rfl⟩
  subst h_g1
  obtain ⟨wr1, h_wr1⟩ : ∃ x, x = wr := ⟨_, rfl⟩
  subst h_wr1
  obtain ⟨k, HK, rfl, HA, HX⟩ := hrel
  by_cases hlt : k < n
  ·obtain ⟨b, off, x, y, rfl, hxy, hc0, hc1⟩ := (HI.out.ext HX.out).at hlt
   have HF := Lib.hid (HF0.out x y wr1 HX.out)
   cases hb : p (x, y)
   all_goals
    rw [hb] at HF
   ·have HT := Lib.hid (show (l.take (k + 1)).all (fun x => !p x) = true by
     rw [List.take_succ_eq_append_getElem (by rw [HL.out]; exact hlt), List.all_append, HA.out]
     have : l[k]'(by rw [HL.out]; exact hlt) = (x, y) := by rw [List.getElem?_eq_getElem (by rw [HL.out]; exact hlt)] at hxy; simpa using hxy
     rw [this]; simp [hb])
    clear hxy hb
    go_wp2_with fail
    refine HF.out.mono ?_
    rintro e w2 ⟨rfl, hx2⟩
    go_wp2_with fail
    go_roundg (g1 - 1)
    case measure => have := HK.out; omega
    case rel => exact ⟨k + 1, Lib.hid (by have := HK.out; omega), by go_num, HT, Lib.hid (HX.out.trans hx2)⟩
   ·have HB := Lib.hid (show indexF p l = k from indexF_at (d := (0, 0)) (by rw [HL.out]; exact hlt) HA.out (by rw [hxy]; exact hb))
    clear hxy hb
    go_wp2_with fail
    refine HF.out.mono ?_
    rintro e w2 ⟨rfl, hx2⟩
    go_wp2_with fail
    go_ret
    exact ⟨ret_int HB.out.symm, HX.out.trans hx2⟩
  ·have HT := Lib.hid (show indexF p l = -1 by
    have h2 := HA.out
    rw [List.take_of_length_le (by rw [HL.out]; have := HK.out; omega)] at h2
    exact indexF_none h2)
   go_wp2_with fail
   go_ret
   exact ⟨ret_int HT.out.symm, HX.out⟩
set_option maxHeartbeats 400000 in
theorem containsFunc_rats {w : World} {a : Option Addr} {n cap : Nat} {l : List (Int × Int)} {fid : FuncId} {ca : Array Value} {p : Int × Int → Bool} (h : Rats w a n cap l) (hg : IsGo Tryz.prog fid) (hf : AsksR Tryz.prog w fid ca p) :
 Calls Tryz.prog 222 #[.slice a n cap, .func (.func fid) #[] ca] w fun e w' => e = .returned (.bool (l.any p)) ∧ Ext w w' := by
 have HC := Lib.hid (indexFunc_rats h hg hf)
 clear h hf
 go_enter Tryz.func222, Tryz.ntmps222
 go_wp2_with fail
 refine HC.out.mono ?_
 rintro e w2 ⟨rfl, hx2⟩
 go_wp2
 all_goals go_ret; refine ⟨ret_bool ?_, hx2⟩; rw [← indexF_any]
theorem i_AllValid1 (x y : Int) (w : World) : Calls Tryz.prog 223 #[ratV x y] w fun e w' => e = .returned (.bool (!valR (x, y))) ∧ Ext w w' := by
 have HX := Lib.hid (Ext.alloc w (.cells #[.int .i64 x, .int .i64 y] 85))
 go_enter Tryz.func223, Tryz.ntmps223
 go_wp2_with fail
 refine (i_IsValidRat x y _).mono ?_
 rintro e w1 ⟨rfl, hx⟩
 have X1 := Lib.hid (HX.out.trans hx)
 clear hx
 go_wp2_with fail
 go_ret
 exact ⟨rfl, X1.out⟩
theorem go_AllValid1 : IsGo Tryz.prog 223 := isGo Tryz.func223 (by kernel_rfl) (by kernel_rfl)
theorem i_AllValid {w : World} {a : Option Addr} {n cap : Nat} {l : List (Int × Int)} (h : Rats w a n cap l) :
 Calls Tryz.prog 186 #[.slice a n cap] w fun e w' => e = .returned (.bool (allV l)) ∧ Ext w w' := by
 have HC := Lib.hid (containsFunc_rats h go_AllValid1 (ca := #[]) (p := fun r => !valR r) (fun x y w1 _ => i_AllValid1 x y w1))
 have HE := Lib.hid (show (!l.any (fun r => !valR r)) = allV l by unfold allV; rw [List.not_any_eq_all_not]; simp)
 clear h
 go_enter Tryz.func186, Tryz.ntmps186
 go_wp2_with fail
 refine HC.out.mono ?_
 rintro e w1 ⟨rfl, hx⟩
 have X1 := Lib.hid hx
 clear hx
 go_wp2_with fail
 go_ret
 exact ⟨ret_bool HE.out, X1.out⟩
theorem i_notNegative1 (x y : Int) (w : World) : Calls Tryz.prog 230 #[ratV x y] w fun e w' => e = .returned (.bool (!(valR (x, y) && decide (0 ≤ x)))) ∧ Ext w w' := by
 have HX := Lib.hid (Ext.alloc w (.cells #[.int .i64 x, .int .i64 y] 85))
 have HV := Lib.hid (fun w => i_IsValidRat x y w)
 cases hv : valR (x, y)
 ·rw [hv] at HV
  clear hv
  go_enter Tryz.func230, Tryz.ntmps230
  go_wp2_with fail
  refine (HV.out _).mono ?_
  rintro e w1 ⟨rfl, hx⟩
  have X1 := Lib.hid (HX.out.trans hx)
  clear hx
  go_wp2_with fail
  go_ret
  exact ⟨rfl, X1.out⟩
 ·rw [hv] at HV
  clear hv
  cases hx0 : decide (0 ≤ x)
  ·have hlt : decide (x < 0) = true := by simp at hx0 ⊢; omega
   clear hx0
   go_enter Tryz.func230, Tryz.ntmps230
   go_wp2_with fail
   refine (HV.out _).mono ?_
   rintro e w1 ⟨rfl, hx⟩
   have hc : w1.cell? ⟨w.heap.size, 0, none⟩ = some (.int .i64 x) := hx.cellSome (by simp)
   have X1 := Lib.hid (HX.out.trans hx)
   clear hx
   go_wp2_with fail
   go_ret
   exact ⟨rfl, X1.out⟩
  ·have hlt : decide (x < 0) = false := by simp at hx0 ⊢; omega
   clear hx0
   go_enter Tryz.func230, Tryz.ntmps230
   go_wp2_with fail
   refine (HV.out _).mono ?_
   rintro e w1 ⟨rfl, hx⟩
   have hc : w1.cell? ⟨w.heap.size, 0, none⟩ = some (.int .i64 x) := hx.cellSome (by simp)
   have X1 := Lib.hid (HX.out.trans hx)
   clear hx
   go_wp2_with fail
   go_ret
   exact ⟨rfl, X1.out⟩
theorem go_notNegative1 : IsGo Tryz.prog 230 := isGo Tryz.func230 (by kernel_rfl) (by kernel_rfl)
theorem i_notNegative {w : World} {a : Option Addr} {n cap : Nat} {l : List (Int × Int)} (h : Rats w a n cap l) (m : Nat) :
 Calls Tryz.prog 196 #[.slice a n cap, .int .i64 (m : Int)] w fun e w' => e = .returned (.bool (decide (l.length = m) && posV l)) ∧ Ext w w' := by
 have hcap := h.hcap
 have hmax := h.hmax
 have HL := Lib.hid h.hlen
 have HC := Lib.hid (containsFunc_rats h go_notNegative1 (ca := #[]) (p := fun r => !(valR r && decide (0 ≤ r.1))) (fun x y w1 _ => i_notNegative1 x y w1))
 have HE := Lib.hid (show (!l.any (fun r => !(valR r && decide (0 ≤ r.1)))) = posV l by unfold posV; rw [List.not_any_eq_all_not]; simp)
 clear h
 cases hn : ((n : Int) == (m : Int))
 ·have HN := Lib.hid (show decide (l.length = m) = false by rw [HL.out]; simp at hn ⊢; omega)
  go_enter Tryz.func196, Tryz.ntmps196
  go_wp2_with fail
  go_ret
  exact ⟨ret_bool (by rw [HN.out]; rfl), Ext.refl _⟩
 ·have HN := Lib.hid (show decide (l.length = m) = true by rw [HL.out]; simp at hn ⊢; omega)
  go_enter Tryz.func196, Tryz.ntmps196
  go_wp2_with fail
  refine HC.out.mono ?_
  rintro e w1 ⟨rfl, hx⟩
  have X1 := Lib.hid hx
  clear hx
  go_wp2_with fail
  go_ret
  exact ⟨ret_bool (by rw [HN.out, ← HE.out]; simp), X1.out⟩
structure RatSS (w : World) (a : Option Addr) (n cap : Nat) (L : List (List (Int × Int))) : Prop where
 hlen : L.length = n
 hcap : n ≤ cap
 hmax : cap ≤ 9223372036854775807
 cell : ∀ k, k < n → ∃ b off, a = some ⟨b, off, none⟩ ∧ ∀ k, k < n → ∃ a' n' c', w.cell? ⟨b, off + k, none⟩ = some (.slice a' n' c') ∧ Rats w a' n' c' (L[k]?.getD [])
theorem RatSS.ext {w w' : World} {a : Option Addr} {n cap : Nat} {L : List (List (Int × Int))} (h : RatSS w a n cap L) (hx : Ext w w') : RatSS w' a n cap L :=
 ⟨h.hlen, h.hcap, h.hmax, fun k hk => let ⟨b, off, e, hc⟩ := h.cell k hk; ⟨b, off, e, fun k hk => let ⟨a', n', c', h1, h2⟩ := hc k hk; ⟨a', n', c', hx.cellSome h1, h2.ext hx⟩⟩⟩
theorem RatSS.at {w : World} {a : Option Addr} {n cap : Nat} {L : List (List (Int × Int))} (h : RatSS w a n cap L) {k : Nat} (hk : k < n) :
 ∃ b off a' n' c', a = some ⟨b, off, none⟩ ∧ w.cell? ⟨b, off + k, none⟩ = some (.slice a' n' c') ∧ Rats w a' n' c' (L[k]?.getD []) :=
 let ⟨b, off, e, hc⟩ := h.cell k hk; let ⟨a', n', c', h1, h2⟩ := hc k hk; ⟨b, off, a', n', c', e, h1, h2⟩
theorem RatSS.alloc {w : World} {a : Option Addr} {n cap : Nat} {L : List (List (Int × Int))} (h : RatSS w a n cap L) (o : Obj) : RatSS (w.alloc o) a n cap L := h.ext (Ext.alloc w o)
def OwnW (w : World) (base : Nat) (v : Value) (vs : List Value) : Prop := w.ownsRow base 30 1 v vs.length vs
theorem OwnW.form {w : World} {base : Nat} {v : Value} {vs : List Value} (h : OwnW w base v vs) : ∃ a cap, v = .slice a vs.length cap ∧ vs.length ≤ cap ∧ cap ≤ 9223372036854775807 := by
 rcases h.2 with ⟨rfl, h0⟩ | ⟨g, cap, cur, rfl, _, _, h1, h2, _⟩
 ·exact ⟨none, 0, by rw [h0], by omega, by omega⟩
 ·exact ⟨_, cap, rfl, h1, by simpa [maxLen] using h2⟩
theorem OwnW.var {w : World} {base : Nat} {v : Value} {vs : List Value} (h : OwnW w base v vs) : ∃ a n cap, v = .slice a n cap ∧ Hid (vs.length = n) := by
 obtain ⟨a, cap, e, _⟩ := h.form
 exact ⟨a, _, cap, e, rfl⟩
theorem OwnW.cell {w : World} {base : Nat} {a : Option Addr} {n cap : Nat} {vs : List Value} (h : OwnW w base (.slice a n cap) vs) {k : Nat} (hk : k < n) : ∃ g, a = some ⟨g, 0, none⟩ ∧ base ≤ g ∧ ∀ k, k < n → w.cell? ⟨g, k, none⟩ = vs[k]? := by
 rcases h.2 with ⟨he, h0⟩ | ⟨g, cap', cur, he, hb, hg, h1, h2, hs, ht⟩
 ·simp only [Value.slice.injEq] at he
  omega
 ·simp only [Value.slice.injEq] at he
  obtain ⟨rfl, rfl, rfl⟩ := he
  refine ⟨g, rfl, hb, fun k hk => ?_⟩
  rw [cell_of_row w g k cur _ (0, 0) hg]
  have : (cur.toList.take (vs.length * 1))[k]? = vs[k]? := by rw [ht]
  rw [List.getElem?_take, if_pos (by omega)] at this
  simpa using this
theorem OwnW.len {w : World} {base : Nat} {a : Option Addr} {n cap : Nat} {vs : List Value} (h : OwnW w base (.slice a n cap) vs) : vs.length = n := by
 obtain ⟨a', cap', he, _⟩ := h.form
 simp only [Value.slice.injEq] at he
 exact he.2.1.symm
theorem OwnW.lt {w : World} {base : Nat} {v : Value} {vs : List Value} (h : OwnW w base v vs) : ∀ k, v.ownBlock = some k → base ≤ k ∧ k < w.heap.size := World.ownsRow.lt h
theorem OwnW.keep {w w' : World} {base : Nat} {v : Value} {vs : List Value} (h : OwnW w base v vs) (hk : ∀ k, v.ownBlock = some k → w'.heap[k]? = w.heap[k]?) : OwnW w' base v vs := by
 refine ⟨h.1, ?_⟩
 rcases h.2 with hn | ⟨g, cap, cur, rfl, hb, hgg, rest⟩
 ·exact .inl hn
 ·exact .inr ⟨g, cap, cur, rfl, hb, (hk g rfl).trans hgg, rest⟩
theorem OwnW.ext {w w' : World} {base : Nat} {v : Value} {vs : List Value} (h : OwnW w base v vs) (hx : Ext w w') : OwnW w' base v vs := h.keep fun k hk => hx.block k (h.lt k hk).2
theorem OwnW.on {w : World} {base : Nat} {v : Value} {vs : List Value} (h : OwnW w base v vs) : On base w (fun W => OwnW W base v vs) := fun w2 h2 => h.keep fun k hk => h2 k (h.lt k hk).1 (h.lt k hk).2
theorem OwnW.nil (w : World) (base : Nat) : OwnW w base (.slice none 0 0) [] := World.ownsRow_nil w base _ 1
theorem OwnR.apart {w : World} {base base' : Nat} {v v' : Value} {l : List (Int × Int)} {vs : List Value} (h : OwnR w base v l) (h' : OwnW w base' v' vs) : ∀ k, v.ownBlock = some k → v'.ownBlock ≠ some k := by
 intro k hk hk'
 rcases h.2 with ⟨rfl, _⟩ | ⟨g, cap, cur, rfl, _, hg, _⟩
 ·simp [Value.ownBlock] at hk
 ·rcases h'.2 with ⟨rfl, _⟩ | ⟨g', cap', cur', rfl, _, hg', _⟩
  ·simp [Value.ownBlock] at hk'
  ·simp only [Value.ownBlock, Option.some.injEq] at hk hk'
   subst hk hk'
   rw [hg] at hg'
   simp at hg'
theorem Tryz.infoRats : (Tryz.prog.info? 30).map (fun i => (i.zero, i.size, i.bytes)) = some (some (.slice none 0 0), 1, 24) := by kernel_rfl
section
variable {P : Program} {w : World} {ops : Array Oper} {rest : List Oper} {o : Oper} {a : Act} {Q : Exit → Act → World → Prop}
theorem wp_append_ratrow {K : Act → World → Prop} (s x : Operand) (ho : o.op = .call { callee := .builtin .append, args := #[s, x], argTypes := #[140, 140] })
 (base : Nat) (v : Value) (vs : List Value) (hs : a.eval s = v) (hown : OwnW w base v vs) (ad : Addr) (u : Value) (c : Nat) (hx : a.eval x = .slice (some ad) 1 c)
 (hcell : w.cell? ad = some u) (h1c : u.oneCell' = true) (hb : vs.length ≤ 1099511627775) (hbase : base ≤ w.heap.size)
 (h : ∀ v' w', OwnW w' base v' (vs ++ [u]) → w.grownBy w' v.ownBlock → Near w v v' → K (a.put o.dst v') w') : o.wp Tryz.prog a w K Q := by
 obtain ⟨i, hi, hz0, hz1, hz2⟩ := info_parts Tryz.infoRats
 refine wp_append_near w s x 140 ho base 30 i (.slice none 0 0) 1 24 Tryz.underlying140 hi hz0 hz1 hz2 rfl (by decide) v vs.length vs hs hown ad 1 c [u] hx rfl ?_ ?_ (by simp [maxLen]; omega) (by omega) hbase ?_
 ·intro j u' hu
  match j with
  | 0 => simpa [Addr.add] using hu ▸ hcell
  | j + 1 => simp at hu
 ·intro u' hu
  simp only [List.mem_singleton] at hu
  rw [hu]
  exact h1c
 ·intro v' w' h1 h2 h3
  refine h v' w' ?_ h2 h3
  unfold OwnW
  rw [List.length_append]
  exact h1
end
structure RowsR (w : World) (base : Nat) (vs : List Value) (L : List (List (Int × Int))) : Prop where
 len : vs.length = L.length
 row : ∀ i, i < L.length → OwnR w base (vs[i]?.getD undef) (L[i]?.getD [])
 apart : ∀ i j k, i < j → j < L.length → (vs[i]?.getD undef).ownBlock = some k → (vs[j]?.getD undef).ownBlock ≠ some k
theorem RowsR.keep {w w' : World} {base : Nat} {vs : List Value} {L : List (List (Int × Int))} (h : RowsR w base vs L) (hk : ∀ i k, i < L.length → (vs[i]?.getD undef).ownBlock = some k → w'.heap[k]? = w.heap[k]?) : RowsR w' base vs L :=
 ⟨h.len, fun i hi => (h.row i hi).keep fun k hk' => hk i k hi hk', h.apart⟩
theorem RowsR.ext {w w' : World} {base : Nat} {vs : List Value} {L : List (List (Int × Int))} (h : RowsR w base vs L) (hx : Ext w w') : RowsR w' base vs L :=
 h.keep fun i k hi hk => hx.block k ((h.row i hi).lt k hk).2
theorem RowsR.nil (w : World) (base : Nat) : RowsR w base [] [] := ⟨rfl, fun i hi => absurd hi (by simp), fun i j k _ hj => absurd hj (by simp)⟩
theorem RowsR.on {w : World} {base : Nat} {vs : List Value} {L : List (List (Int × Int))} (h : RowsR w base vs L) : On base w (fun W => RowsR W base vs L) :=
 fun w2 h2 => h.keep fun i k hi hk => h2 k ((h.row i hi).lt k hk).1 ((h.row i hi).lt k hk).2
theorem RowsR.snoc {w w' : World} {base : Nat} {vs : List Value} {L : List (List (Int × Int))} (h : RowsR w base vs L) (hx : Ext w w') {v : Value} {l : List (Int × Int)} (ho : OwnR w' w.heap.size v l) (hb : base ≤ w.heap.size) : RowsR w' base (vs ++ [v]) (L ++ [l]) := by
 have h' := h.ext hx
 refine ⟨by simp [h.len], fun i hi => ?_, fun i j k hij hj hk => ?_⟩
 ·by_cases hl : i < L.length
  ·rw [List.getElem?_append_left (by rw [h.len]; exact hl), List.getElem?_append_left hl]; exact h'.row i hl
  ·have : i = L.length := by simp at hi; omega
   subst this
   rw [← h.len]
   simp only [List.getElem?_concat_length, Option.getD_some]
   rw [h.len]
   simp only [List.getElem?_concat_length, Option.getD_some]
   exact ho.mono hb
 ·by_cases hl : j < L.length
  ·rw [List.getElem?_append_left (by rw [h.len]; omega)] at hk
   rw [List.getElem?_append_left (by rw [h.len]; exact hl)]
   exact h.apart i j k hij hl hk
  ·have : j = L.length := by simp at hj; omega
   subst this
   rw [List.getElem?_append_left (by rw [h.len]; omega)] at hk
   rw [← h.len]
   simp only [List.getElem?_concat_length, Option.getD_some]
   intro hk'
   have h1 := ((h.row i (by omega)).lt k hk).2
   have h2 := (ho.lt k hk').1
   omega
def OwnRR (w : World) (base : Nat) (v : Value) (L : List (List (Int × Int))) : Prop := ∃ vs, OwnW w base v vs ∧ RowsR w base vs L
theorem OwnRR.form {w : World} {base : Nat} {v : Value} {L : List (List (Int × Int))} (h : OwnRR w base v L) : ∃ a cap, v = .slice a L.length cap ∧ L.length ≤ cap ∧ cap ≤ 9223372036854775807 := by
 obtain ⟨vs, h1, h2⟩ := h
 have := h1.form
 rwa [h2.len] at this
theorem OwnRR.var {w : World} {base : Nat} {v : Value} {L : List (List (Int × Int))} (h : OwnRR w base v L) : ∃ a n cap, v = .slice a n cap ∧ Hid (L.length = n) := by
 obtain ⟨a, cap, e, _⟩ := h.form
 exact ⟨a, _, cap, e, rfl⟩
theorem OwnRR.ext {w w' : World} {base : Nat} {v : Value} {L : List (List (Int × Int))} (h : OwnRR w base v L) (hx : Ext w w') : OwnRR w' base v L :=
 let ⟨vs, h1, h2⟩ := h; ⟨vs, h1.ext hx, h2.ext hx⟩
theorem OwnRR.on {w : World} {base : Nat} {v : Value} {L : List (List (Int × Int))} (h : OwnRR w base v L) : On base w (fun W => OwnRR W base v L) :=
 let ⟨vs, h1, h2⟩ := h; fun w2 hw => ⟨vs, h1.on w2 hw, h2.on w2 hw⟩
theorem OwnRR.nil (w : World) (base : Nat) : OwnRR w base (.slice none 0 0) [] := ⟨[], OwnW.nil w base, RowsR.nil w base⟩
theorem OwnRR.ratss {w : World} {base : Nat} {a : Option Addr} {n cap : Nat} {L : List (List (Int × Int))} (h : OwnRR w base (.slice a n cap) L) : RatSS w a n cap L := by
 obtain ⟨a', cap', he, h1, h2⟩ := h.form
 simp only [Value.slice.injEq] at he
 obtain ⟨rfl, rfl, rfl⟩ := he
 obtain ⟨vs, h3, h4⟩ := h
 refine ⟨rfl, h1, h2, fun k hk => ?_⟩
 obtain ⟨g, rfl, _, hc⟩ := h3.cell hk
 refine ⟨g, 0, rfl, fun k hk => ?_⟩
 have hv : k < vs.length := by rw [h4.len]; exact hk
 obtain ⟨a', cap', hf, _⟩ := (h4.row k hk).form
 have ho := h4.row k hk
 rw [hf] at ho
 refine ⟨a', _, cap', ?_, ho.rats⟩
 rw [Nat.zero_add, hc k hk, ← hf]
 simp [hv]
structure RMat (w : World) (base : Nat) (a : Option Addr) (N cap : Nat) (vs : List Value) (M : List (List (Int × Int))) : Prop where
 own : OwnW w base (.slice a N cap) vs
 rows : RowsR w base vs M
theorem RMat.vlen {w : World} {base : Nat} {a : Option Addr} {N cap : Nat} {vs : List Value} {M : List (List (Int × Int))} (h : RMat w base a N cap vs M) : vs.length = N := h.own.len
theorem RMat.len {w : World} {base : Nat} {a : Option Addr} {N cap : Nat} {vs : List Value} {M : List (List (Int × Int))} (h : RMat w base a N cap vs M) : M.length = N := by rw [← h.rows.len]; exact h.own.len
theorem RMat.cap {w : World} {base : Nat} {a : Option Addr} {N cap : Nat} {vs : List Value} {M : List (List (Int × Int))} (h : RMat w base a N cap vs M) : N ≤ cap ∧ cap ≤ 9223372036854775807 := by
 obtain ⟨a', c', he, h1, h2⟩ := h.own.form
 simp only [Value.slice.injEq] at he
 obtain ⟨_, h3, rfl⟩ := he
 exact ⟨by omega, h2⟩
theorem RMat.keep {w w' : World} {base : Nat} {a : Option Addr} {N cap : Nat} {vs : List Value} {M : List (List (Int × Int))} (h : RMat w base a N cap vs M) (h0 : ∀ k, (Value.slice a N cap).ownBlock = some k → w'.heap[k]? = w.heap[k]?)
 (h1 : ∀ i k, i < N → (vs[i]?.getD undef).ownBlock = some k → w'.heap[k]? = w.heap[k]?) : RMat w' base a N cap vs M :=
 ⟨h.own.keep h0, h.rows.keep fun i k hi hk => h1 i k (by rw [← h.len]; exact hi) hk⟩
theorem RMat.ext {w w' : World} {base : Nat} {a : Option Addr} {N cap : Nat} {vs : List Value} {M : List (List (Int × Int))} (h : RMat w base a N cap vs M) (hx : Ext w w') : RMat w' base a N cap vs M := ⟨h.own.ext hx, h.rows.ext hx⟩
theorem RMat.ratss {w : World} {base : Nat} {a : Option Addr} {N cap : Nat} {vs : List Value} {M : List (List (Int × Int))} (h : RMat w base a N cap vs M) : RatSS w a N cap M :=
 OwnRR.ratss ⟨vs, h.own, h.rows⟩
theorem RMat.outer {w : World} {base : Nat} {a : Option Addr} {N cap : Nat} {vs : List Value} {M : List (List (Int × Int))} (h : RMat w base a N cap vs M) (hN : 0 < N) : ∃ G, a = some ⟨G, 0, none⟩ ∧ base ≤ G ∧ G < w.heap.size ∧ ∀ j, w.frozen? ⟨G, j, none⟩ = false := by
 rcases h.own.2 with ⟨he, h0⟩ | ⟨g, cap', cur, he, hb, hg, _⟩
 ·simp only [Value.slice.injEq] at he
  omega
 ·simp only [Value.slice.injEq] at he
  obtain ⟨rfl, _⟩ := he
  exact ⟨g, rfl, hb, lt_of_block hg, fun j => frozen_of_row w g j cur _ hg⟩
theorem RMat.row {w : World} {base G N cap : Nat} {vs : List Value} {M : List (List (Int × Int))} (h : RMat w base (some ⟨G, 0, none⟩) N cap vs M) {i n : Nat} (hi : i < N) (hn : (M[i]?.getD []).length = n) (h1 : 1 ≤ n) :
 ∃ g c, vs[i]?.getD undef = .slice (some ⟨g, 0, none⟩) n c ∧ w.cell? ⟨G, i, none⟩ = some (.slice (some ⟨g, 0, none⟩) n c) ∧ OwnR w base (.slice (some ⟨g, 0, none⟩) n c) (M[i]?.getD []) ∧ g ≠ G ∧ base ≤ g ∧ g < w.heap.size ∧ n ≤ c ∧ c ≤ 9223372036854775807 := by
 have hr := h.rows.row i (by rw [h.len]; exact hi)
 obtain ⟨a', c, he, hc1, hc2⟩ := hr.form
 rw [he] at hr
 rw [hn] at he hr hc1
 obtain ⟨g, rfl, hb, _, hgl⟩ := hr.block (k := 0) (by omega)
 obtain ⟨G', hG, _, hc⟩ := h.own.cell hi
 simp only [Option.some.injEq, Addr.mk.injEq, and_true] at hG
 subst hG
 refine ⟨g, c, he, ?_, hr, fun e => hr.apart h.own g rfl (by subst e; rfl), hb, hgl, hc1, hc2⟩
 rw [hc i hi, ← he]
 have : i < vs.length := by rw [h.vlen]; exact hi
 simp [this]
theorem RMat.put {w0 w : World} {base G N cap : Nat} {vs : List Value} {M : List (List (Int × Int))} (h : RMat w0 base (some ⟨G, 0, none⟩) N cap vs M) (hx : Ext w0 w) (hb : base ≤ w0.heap.size) {v : Value} {l : List (Int × Int)} (ho : OwnR w w0.heap.size v l) {i : Nat} (hi : i < N) :
 RMat (w.setCell ⟨G, i, none⟩ v) base (some ⟨G, 0, none⟩) N cap (vs.set i v) (M.set i l) := by
 have hil : i < M.length := by rw [h.len]; exact hi
 have hvl : i < vs.length := by rw [h.vlen]; exact hi
 have hW := h.ext hx
 obtain ⟨G', hG, hbG, hGl, _⟩ := h.outer (by omega)
 simp only [Option.some.injEq, Addr.mk.injEq, and_true] at hG
 subst hG
 have hother : ∀ k, k ≠ G → (w.setCell ⟨G, i, none⟩ v).heap[k]? = w.heap[k]? := fun k hk => heap_setCell_other _ _ _ _ hk
 refine ⟨?_, ⟨by rw [List.length_set, List.length_set]; exact h.rows.len, fun k hk => ?_, fun a b k hab hb2 hk hk2 => ?_⟩⟩
 ·have ho := hW.own
  unfold OwnW at ho
  rw [hW.vlen] at ho
  have := (World.ownsRow.stored ho i v).1
  unfold OwnW
  rw [List.length_set, hW.vlen]
  exact this
 ·rw [List.length_set] at hk
  by_cases hki : k = i
  ·subst hki
   rw [List.getElem?_set_self hvl, List.getElem?_set_self hil]
   exact (ho.keep fun b hb' => hother b (by have := (ho.lt b hb').1; omega)).mono hb
  ·rw [List.getElem?_set_ne (Ne.symm hki), List.getElem?_set_ne (Ne.symm hki)]
   refine (hW.rows.row k hk).keep fun b hb' => hother b fun e => ?_
   subst e
   exact (hW.rows.row k hk).apart hW.own _ hb' rfl
 ·rw [List.length_set] at hb2
  by_cases hai : a = i
  ·subst hai
   rw [List.getElem?_set_self hvl] at hk
   rw [List.getElem?_set_ne (by omega)] at hk2
   have h1 := (ho.lt k hk).1
   have h2 := ((h.rows.row b hb2).lt k hk2).2
   omega
  ·rw [List.getElem?_set_ne (Ne.symm hai)] at hk
   by_cases hbi : b = i
   ·subst hbi
    rw [List.getElem?_set_self hvl] at hk2
    have h1 := (ho.lt k hk2).1
    have h2 := ((h.rows.row a (by omega)).lt k hk).2
    omega
   ·rw [List.getElem?_set_ne (Ne.symm hbi)] at hk2
    exact h.rows.apart a b k hab hb2 hk hk2
theorem RowsR.apart' {w : World} {base : Nat} {vs : List Value} {L : List (List (Int × Int))} (h : RowsR w base vs L) {i j k : Nat} (hij : i ≠ j) (hi : i < L.length) (hj : j < L.length) (hk : (vs[i]?.getD undef).ownBlock = some k) : (vs[j]?.getD undef).ownBlock ≠ some k := by
 rcases Nat.lt_or_gt_of_ne hij with h1 | h1
 ·exact h.apart i j k h1 hj hk
 ·exact fun e => h.apart j i k h1 hi e hk
theorem RowsR.grownV {w w' : World} {base base' : Nat} {v : Value} {vs : List Value} {L : List (List (Int × Int))} (h : RowsR w base vs L) {us : List Value} (hv : OwnW w base' v us) (hg : w.grownBy w' v.ownBlock) : RowsR w' base vs L :=
 h.keep fun i k hi hk => hg.block k ((h.row i hi).lt k hk).2 fun e => (h.row i hi).apart hv k hk e.symm
theorem RatSS.at' {w : World} {G N cap : Nat} {L : List (List (Int × Int))} (h : RatSS w (some ⟨G, 0, none⟩) N cap L) {k : Nat} (hk : k < N) :
 ∃ a m c, w.cell? ⟨G, k, none⟩ = some (.slice a m c) ∧ Rats w a m c (L[k]?.getD []) := by
 obtain ⟨b, off, a, m, c, he, hc, hr⟩ := h.at hk
 simp only [Option.some.injEq, Addr.mk.injEq, and_true] at he
 obtain ⟨rfl, rfl⟩ := he
 rw [Nat.zero_add] at hc
 exact ⟨a, m, c, hc, hr⟩
end Go.Proofs.YtgohdmnbnhehnaaGreat
