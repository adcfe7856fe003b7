import Derived.Test.YthjjfkeacobikaaGreatTaAllG27
import Derived.Test.YthjjfkeacobikaaGreatTaAllG29
import Derived.Test.YthjjfkeacobikaaGreatTaAllG17
set_option linter.unusedVariables false
set_option linter.unusedSimpArgs false
namespace Go.Proofs.YthjjfkeacobikaaGreat
theorem sumN_front {f : Nat → Rat} {m : Nat} : ∀ d, (∀ k, m ≤ k → k < m + d → f k = 0) → sumN f (m + d) = sumN f m
 | 0, _ => rfl
 | d + 1, h => by
   rw [← Nat.add_assoc]
   simp only [sumN]
   rw [sumN_front d (fun k h1 h2 => h k h1 (by omega)), h (m + d) (by omega) (by omega)]
   grind
def zs (q : Nat) (z : Nat → Rat) (s : Int) : Rat := sumN (fun k => z k * ((bitI (hasP s (k : Int)) : Int) : Rat)) q
def exZ (q : Nat) (V : List Int) (z : Nat → Rat) (s : Int) : Rat := ((V[s.toNat]?.getD 0 : Int) : Rat) - zs q z s
structure Meets (q : Nat) (V : List Int) (L : List (Int × Int × Int)) (z : Nat → Rat) : Prop where
 grand : exZ q V z ((V.length : Int) - 1) = 0
 fixed : ∀ f ∈ L, exZ q V z f.1 = val f.2
theorem st_ent {q : Nat} {V : List Int} {L : List (Int × Int × Int)} {j : Nat} {c : Col} (h : (colsL V L)[j]? = some c) {i : Nat} (hi : i < q + 1) : ent (stA q V L) i j = c.2.1 * bitI (onC q i c) := by
 unfold ent stA rowC
 rw [List.getElem?_map, List.getElem?_range hi, Option.map_some, Option.getD_some, List.getElem?_map, h, Option.map_some, Option.getD_some]
theorem st_loss {q : Nat} {V : List Int} {L : List (Int × Int × Int)} {j : Nat} {c : Col} (h : (colsL V L)[j]? = some c) (z : Nat → Rat) :
 - vrow (stC V L) j - sumN (fun i => (if i < q then z i else 0) * (ent (stA q V L) i j : Rat)) (q + 1) = - val c.2.2.2 - ((c.2.1 : Int) : Rat) * zs q z c.1 := by
 have e1 : vrow (stC V L) j = val c.2.2.2 := by unfold vrow; rw [stC_at h]
 have e2 : sumN (fun i => (if i < q then z i else 0) * (ent (stA q V L) i j : Rat)) (q + 1) = ((c.2.1 : Int) : Rat) * zs q z c.1 := by
  rw [sumN_front (m := q) 1 (fun k h1 h2 => by rw [if_neg (by omega)]; grind)]
  unfold zs
  rw [← sumN_mul]
  refine sumN_congr fun i hi => ?_
  rw [if_pos hi, st_ent h (by omega), Rat.intCast_mul]
  unfold onC
  rw [if_pos hi]
  grind
 rw [e1, e2]
theorem fixedC_at {V : List Int} {E : List (Int × Int × Int)} {c : Col} (h : c ∈ fixedC V E) : ∃ f ∈ E, c ∈ twoC f.1 (costC V f) := by
 unfold fixedC at h
 obtain ⟨f, hf, hc⟩ := List.mem_flatMap.1 h
 exact ⟨f, hf, hc⟩
theorem fix_loss {q : Nat} {V : List Int} {f : Int × Int × Int} (hf : fitC V f = true) {z : Nat → Rat} (hz : exZ q V z f.1 = val f.2) {c : Col} (hc : c ∈ twoC f.1 (costC V f)) : - val c.2.2.2 - ((c.2.1 : Int) : Rat) * zs q z c.1 = 0 := by
 unfold fitC at hf
 obtain ⟨a1, a2, a3, a4⟩ := val_sub hf
 rw [val_whole] at a4
 have hcost : val (costC V f) = val f.2 - ((V[f.1.toNat]?.getD 0 : Int) : Rat) := a4
 unfold exZ at hz
 unfold twoC at hc
 simp only [List.mem_cons, List.not_mem_nil, or_false] at hc
 rcases hc with rfl | rfl
 ·show - val ((costC V f).1, (costC V f).2) - ((1 : Int) : Rat) * zs q z f.1 = 0
  have e : ((1 : Int) : Rat) = 1 := rfl
  rw [show ((costC V f).1, (costC V f).2) = costC V f from rfl, hcost, e]
  grind
 ·show - val (negR (costC V f)) - ((-1 : Int) : Rat) * zs q z f.1 = 0
  have e : ((-1 : Int) : Rat) = -1 := rfl
  rw [val_neg, hcost, e]
  grind
theorem stage_avg {p : Int} {V : List Int} {L : List (Int × Int × Int)} (h : stOk p V L = true) (hs : (nucLp p.toNat V L).status = 1) {z : Nat → Rat} (hm : Meets p.toNat V L z) :
 sumN (fun j => vrow (nucLp p.toNat V L).X j * exZ p.toNat V z ((frN V L)[j]?.getD 0)) (frN V L).length = - val (nucLp p.toNat V L).value ∧ sumN (fun j => vrow (nucLp p.toNat V L).X j) (frN V L).length = 1 ∧ ∀ j, j < (frN V L).length → 0 ≤ vrow (nucLp p.toNat V L).X j := by
 obtain ⟨hg, hp2, _, _⟩ := stOk_parts h
 obtain ⟨h1, _, hpn, _, _, hV⟩ := game_cN hg
 obtain ⟨v1, _, v3, _⟩ := solveG_val hs
 have hce := cert_of v1 v3 hs
 change Cert (stA p.toNat V L) (stB p.toNat) (stC V L) (nucLp p.toNat V L) at hce
 have hgl : goodL p V L = true := by unfold stOk at h; simp only [Bool.and_eq_true] at h; exact h.1
 have hfit := stOk_ext hgl rfl h1 hV
 rw [h] at hfit
 have hfit := List.all_eq_true.1 hfit.symm
 obtain ⟨r, hr⟩ : ∃ r, r = nucLp p.toNat V L := ⟨_, rfl⟩
 rw [← hr] at hce ⊢
 have hcols := cols_ext rfl h1 hV L
 have hAl : (stA p.toNat V L).length = p.toNat + 1 := by simp [stA]
 have hCl : (stC V L).length = (frN V L).length + (fixedC V (extE V.length L)).length := by
  unfold stC frN
  rw [List.length_map, ← hcols, List.length_append, frontC_len]
 have hfront : ∀ j, j < (frN V L).length → (colsL V L)[j]? = some ((frN V L)[j]?.getD 0, 1, true, -(V[((frN V L)[j]?.getD 0).toNat]?.getD 0), 1) := fun j hj => by
  unfold frN at hj ⊢
  rw [← hcols, List.getElem?_append_left (by rw [frontC_len]; exact hj)]
  unfold frontC
  rw [List.getElem?_map, List.getElem?_eq_getElem hj]
  rfl
 have hback : ∀ j, (frN V L).length ≤ j → j < (frN V L).length + (fixedC V (extE V.length L)).length → ∃ f ∈ extE V.length L, ∃ c ∈ twoC f.1 (costC V f), (colsL V L)[j]? = some c := fun j h2 h3 => by
  have e : (colsL V L)[j]? = (fixedC V (extE V.length L))[j - (frN V L).length]? := by
   unfold frN
   rw [← hcols, List.getElem?_append_right (by rw [frontC_len]; exact h2), frontC_len]
  have hl : j - (frN V L).length < (fixedC V (extE V.length L)).length := by omega
  rw [List.getElem?_eq_getElem hl] at e
  obtain ⟨f, hf, hc⟩ := fixedC_at (List.getElem_mem hl)
  exact ⟨f, hf, _, hc, e⟩
 have hmeet : ∀ f ∈ extE V.length L, exZ p.toNat V z f.1 = val f.2 := fun f hf => by
  unfold extE at hf
  rcases List.mem_append.1 hf with hf | hf
  ·exact hm.fixed f hf
  ·simp only [List.mem_cons, List.not_mem_nil, or_false] at hf
   subst hf
   rw [hm.grand]
   exact (val_whole 0).symm
 have havg := cert_avg hce (fun i => if i < p.toNat then z i else 0)
 rw [hAl, hCl] at havg
 rw [sumN_front _ (fun j h2 h3 => by
  obtain ⟨f, hf, c, hc, he⟩ := hback j h2 h3
  rw [st_loss he, fix_loss (hfit f hf) (hmeet f hf) hc]
  grind)] at havg
 have hB0 : sumN (fun i => (if i < p.toNat then z i else 0) * (((stB p.toNat)[i]?.getD 0 : Int) : Rat)) (p.toNat + 1) = 0 := sumN_zero fun i hi => by
  by_cases hip : i < p.toNat
  ·have e : (stB p.toNat)[i]?.getD 0 = 0 := by
    unfold stB
    rw [List.getElem?_map, List.getElem?_range (by omega), Option.map_some, Option.getD_some]
    have : decide (i = p.toNat) = false := decide_eq_false (by omega)
    rw [this]; rfl
   rw [e]; grind
  ·rw [if_neg hip]; grind
 rw [hB0] at havg
 refine ⟨?_, ?_, fun j hj => hce.x0 j (by omega)⟩
 ·rw [← (show - val r.value - 0 = - val r.value by grind), ← havg]
  refine sumN_congr fun j hj => ?_
  rw [st_loss (hfront j hj)]
  unfold exZ
  show _ = vrow r.X j * (- val (-(V[((frN V L)[j]?.getD 0).toNat]?.getD 0), 1) - ((1 : Int) : Rat) * zs p.toNat z ((frN V L)[j]?.getD 0))
  have e : ((1 : Int) : Rat) = 1 := rfl
  rw [val_whole, Rat.intCast_neg, e]
  grind
 ·have hrow := hce.row p.toNat (by omega)
  have e1 : ((stB p.toNat)[p.toNat]?.getD 0) = 1 := by
   unfold stB
   rw [List.getElem?_map, List.getElem?_range (by omega), Option.map_some, Option.getD_some]
   rw [show decide (p.toNat = p.toNat) = true from decide_eq_true rfl]; rfl
  rw [e1, hCl] at hrow
  have hq : ∀ c : Col, onC p.toNat p.toNat c = c.2.2.1 := fun c => by unfold onC; rw [if_neg (by omega)]
  rw [sumN_front _ (fun j h2 h3 => by
   obtain ⟨f, hf, c, hc, he⟩ := hback j h2 h3
   rw [st_ent he (by omega), hq]
   have : c.2.2.1 = false := by
    unfold twoC at hc
    simp only [List.mem_cons, List.not_mem_nil, or_false] at hc
    rcases hc with rfl | rfl <;> rfl
   rw [this]
   show ((c.2.1 * 0 : Int) : Rat) * _ = 0
   rw [Int.mul_zero]
   show (0 : Rat) * _ = 0
   grind)] at hrow
  have e2 : (((1 : Int)) : Rat) = 1 := rfl
  rw [e2] at hrow
  rw [← hrow]
  refine sumN_congr fun j hj => ?_
  rw [st_ent (hfront j hj) (by omega), hq]
  show _ = ((1 * 1 : Int) : Rat) * vrow r.X j
  have e3 : ((1 * 1 : Int) : Rat) = 1 := rfl
  rw [e3]
  grind
theorem x_pos {A : List (List Int)} {B : List Int} {C : List (Int × Int)} {r : LpR} (hc : checkG boundI A B C r = true) (hs : r.status = 1) {j : Nat} (hj : 0 < (r.X[j]?.getD (0, 0)).1) : 0 < vrow r.X j := by
 unfold checkG at hc
 rw [if_pos hs] at hc
 obtain ⟨hf, _⟩ := both hc
 unfold feasB at hf
 obtain ⟨_, hf⟩ := both hf
 obtain ⟨hpos, _⟩ := both hf
 by_cases hl : j < r.X.length
 ·have := List.all_eq_true.1 hpos (r.X[j]) (List.getElem_mem hl)
  obtain ⟨a, _⟩ := both this
  unfold vrow
  rw [List.getElem?_eq_getElem hl, Option.getD_some] at hj ⊢
  have hn := mt (val_nonneg (p := negR r.X[j]) (by rw [valR_negR]; exact a)).2 (by show ¬ 0 ≤ -(r.X[j]).1; omega)
  rw [val_neg] at hn
  grind
 ·rw [List.getElem?_eq_none (by omega), Option.getD_none] at hj
  exact absurd hj (by decide)
theorem st_dual {q : Nat} {V : List Int} {L : List (Int × Int × Int)} {r : LpR} (hc : Cert (stA q V L) (stB q) (stC V L) r) {j : Nat} {c : Col} (h : (colsL V L)[j]? = some c) :
 - (((c.2.1 : Int) : Rat) * zs q (fun i => - vrow r.Y i) c.1) + ((c.2.1 : Int) : Rat) * ((bitI c.2.2.1 : Int) : Rat) * val r.value ≤ val c.2.2.2 := by
 have hAl : (stA q V L).length = q + 1 := by simp [stA]
 have hj : j < (stC V L).length := by unfold stC; rw [List.length_map]; exact (List.getElem?_eq_some_iff.1 h).1
 have hcol := hc.col j hj
 have e1 : vrow (stC V L) j = val c.2.2.2 := by unfold vrow; rw [stC_at h]
 have hyb := hc.yb
 rw [hAl] at hcol hyb
 have hv : val r.value = vrow r.Y q := by
  rw [hyb, sumN_one (show q < q + 1 by omega) (fun i hi hne => by
   have e : (stB q)[i]?.getD 0 = 0 := by
    unfold stB
    rw [List.getElem?_map, List.getElem?_range hi, Option.map_some, Option.getD_some]
    rw [show decide (i = q) = false from decide_eq_false hne]; rfl
   rw [e]; grind)]
  have e : (stB q)[q]?.getD 0 = 1 := by
   unfold stB
   rw [List.getElem?_map, List.getElem?_range (by omega), Option.map_some, Option.getD_some]
   rw [show decide (q = q) = true from decide_eq_true rfl]; rfl
  rw [e]; grind
 have e2 : sumN (fun i => vrow r.Y i * (ent (stA q V L) i j : Rat)) (q + 1) = - (((c.2.1 : Int) : Rat) * zs q (fun i => - vrow r.Y i) c.1) + ((c.2.1 : Int) : Rat) * ((bitI c.2.2.1 : Int) : Rat) * val r.value := by
  simp only [sumN]
  have e3 : sumN (fun i => vrow r.Y i * (ent (stA q V L) i j : Rat)) q = - (((c.2.1 : Int) : Rat) * zs q (fun i => - vrow r.Y i) c.1) := by
   unfold zs
   rw [← sumN_mul, ← sumN_neg]
   refine sumN_congr fun i hi => ?_
   rw [st_ent h (by omega), Rat.intCast_mul]
   unfold onC
   rw [if_pos hi]
   grind
  rw [e3, st_ent h (by omega), Rat.intCast_mul, hv]
  unfold onC
  rw [if_neg (by omega)]
  grind
 rw [e2, e1] at hcol
 exact hcol
theorem stage_pt {p : Int} {V : List Int} {L : List (Int × Int × Int)} (h : stOk p V L = true) (hs : (nucLp p.toNat V L).status = 1) :
 Meets p.toNat V (nextN V L (nucLp p.toNat V L)) (fun i => - vrow (nucLp p.toNat V L).Y i) ∧ ∀ s ∈ frN V L, exZ p.toNat V (fun i => - vrow (nucLp p.toNat V L).Y i) s ≤ - val (nucLp p.toNat V L).value := by
 obtain ⟨hg, hp2, _, _⟩ := stOk_parts h
 obtain ⟨h1, _, hpn, _, _, hV⟩ := game_cN hg
 obtain ⟨v1, _, v3, _, v5, _⟩ := solveG_val hs
 have hce := cert_of v1 v3 hs
 change Cert (stA p.toNat V L) (stB p.toNat) (stC V L) (nucLp p.toNat V L) at hce
 have hgl : goodL p V L = true := by unfold stOk at h; simp only [Bool.and_eq_true] at h; exact h.1
 have hfit := stOk_ext hgl rfl h1 hV
 rw [h] at hfit
 have hfit := List.all_eq_true.1 hfit.symm
 have hcols := cols_ext rfl h1 hV L
 have hfree : ∀ s ∈ frN V L, exZ p.toNat V (fun i => - vrow (nucLp p.toNat V L).Y i) s ≤ - val (nucLp p.toNat V L).value := fun s hsm => by
  obtain ⟨j, hj, rfl⟩ := List.getElem_of_mem hsm
  have hcj : (colsL V L)[j]? = some ((frN V L)[j], 1, true, -(V[((frN V L)[j]).toNat]?.getD 0), 1) := by
   unfold frN at hj ⊢
   rw [← hcols, List.getElem?_append_left (by rw [frontC_len]; exact hj)]
   unfold frontC
   rw [List.getElem?_map, List.getElem?_eq_getElem hj]
   rfl
  have hd := st_dual hce hcj
  unfold exZ
  have e1 : (((1 : Int)) : Rat) = 1 := rfl
  have e2 : ((bitI true : Int) : Rat) = 1 := rfl
  change - (((1 : Int) : Rat) * zs p.toNat (fun i => - vrow (nucLp p.toNat V L).Y i) (frN V L)[j]) + ((1 : Int) : Rat) * ((bitI true : Int) : Rat) * val (nucLp p.toNat V L).value ≤ val (-(V[((frN V L)[j]).toNat]?.getD 0), 1) at hd
  rw [val_whole, Rat.intCast_neg, e1, e2] at hd
  grind
 have hfix : ∀ f ∈ extE V.length L, exZ p.toNat V (fun i => - vrow (nucLp p.toNat V L).Y i) f.1 = val f.2 := fun f hf => by
  have hin : ∀ c ∈ twoC f.1 (costC V f), ∃ j : Nat, (colsL V L)[j]? = some c := fun c hc => by
   have : c ∈ colsL V L := by
    rw [← hcols]
    refine List.mem_append.2 (.inr ?_)
    unfold fixedC
    exact List.mem_flatMap.2 ⟨f, hf, hc⟩
   exact List.mem_iff_getElem?.1 this
  have hff := hfit f hf
  unfold fitC at hff
  obtain ⟨a1, a2, a3, a4⟩ := val_sub hff
  rw [val_whole] at a4
  have hcost : val (costC V f) = val f.2 - ((V[f.1.toNat]?.getD 0 : Int) : Rat) := a4
  obtain ⟨j1, hj1⟩ := hin (f.1, 1, false, (costC V f).1, (costC V f).2) (by unfold twoC; simp)
  obtain ⟨j2, hj2⟩ := hin (f.1, -1, false, -(costC V f).1, (costC V f).2) (by unfold twoC; simp)
  have d1 := st_dual hce hj1
  have d2 := st_dual hce hj2
  change - (((1 : Int) : Rat) * zs p.toNat (fun i => - vrow (nucLp p.toNat V L).Y i) f.1) + ((1 : Int) : Rat) * ((bitI false : Int) : Rat) * val (nucLp p.toNat V L).value ≤ val (costC V f) at d1
  change - (((-1 : Int) : Rat) * zs p.toNat (fun i => - vrow (nucLp p.toNat V L).Y i) f.1) + ((-1 : Int) : Rat) * ((bitI false : Int) : Rat) * val (nucLp p.toNat V L).value ≤ val (negR (costC V f)) at d2
  have e1 : (((1 : Int)) : Rat) = 1 := rfl
  have e2 : ((bitI false : Int) : Rat) = 0 := rfl
  have e3 : (((-1 : Int)) : Rat) = -1 := rfl
  rw [val_neg] at d2
  rw [hcost, e1, e2] at d1
  rw [hcost, e2, e3] at d2
  unfold exZ
  grind
 have hmL : Meets p.toNat V L (fun i => - vrow (nucLp p.toNat V L).Y i) := by
  refine ⟨?_, fun f hf => hfix f (by unfold extE; exact List.mem_append.2 (.inl hf))⟩
  have := hfix ((V.length : Int) - 1, 0, 1) (by unfold extE; simp)
  rw [this]
  exact val_whole 0
 refine ⟨⟨hmL.grand, fun f hf => ?_⟩, hfree⟩
 unfold nextN at hf
 rcases List.mem_append.1 hf with hf | hf
 ·exact hmL.fixed f hf
 ·unfold newF at hf
  obtain ⟨j, hj, rfl⟩ := List.mem_map.1 hf
  obtain ⟨hjl, hjx⟩ := List.mem_filter.1 hj
  have hjl := List.mem_range.1 hjl
  have hjx := of_decide_eq_true hjx
  obtain ⟨k1, k2, k3⟩ := stage_avg h hs hmL
  show exZ p.toNat V (fun i => - vrow (nucLp p.toNat V L).Y i) ((frN V L)[j]?.getD 0) = val (negR (nucLp p.toNat V L).value)
  rw [val_neg]
  false_or_by_contra
  rename_i hne
  have hx : 0 < vrow (nucLp p.toNat V L).X j := x_pos v3 hs hjx
  obtain ⟨i, hi, _, hlt⟩ := mean_some k2 k3 k1 hjl hx hne
  have := hfree ((frN V L)[i]?.getD 0) (by rw [List.getElem?_eq_getElem hi, Option.getD_some]; exact List.getElem_mem hi)
  grind
def cntGe (u : Rat) (l : List Rat) : Nat := l.countP fun x => decide (u ≤ x)
def cntGt (t : Rat) (l : List Rat) : Nat := l.countP fun x => decide (t < x)
def exL (q : Nat) (V : List Int) (z : Nat → Rat) : List Rat := (seqI 1 (V.length - 2)).map (exZ q V z)
def More (a b : List Rat) : Prop := ∃ t, (∀ u, t < u → cntGe u a ≤ cntGe u b) ∧ cntGt t a < cntGt t b
theorem hasX_mem {L : List (Int × Int × Int)} {s : Int} (h : hasX L s = true) : ∃ f ∈ L, f.1 = s := by
 unfold hasX at h
 obtain ⟨f, hf, he⟩ := List.any_eq_true.1 h
 exact ⟨f, hf, by simpa using he⟩
theorem more_of {q : Nat} {V : List Int} {L : List (Int × Int × Int)} {y z : Nat → Rat} {t : Rat} (hs : ∀ s, hasX L s = true → exZ q V y s = exZ q V z s) (hy : ∀ s ∈ frN V L, exZ q V y s ≤ t) (hz : ∃ s ∈ frN V L, t < exZ q V z s) : More (exL q V y) (exL q V z) := by
 have split : ∀ (g : Rat → Bool) (w : Nat → Rat), (exL q V w).countP g = (((seqI 1 (V.length - 2)).filter (hasX L)).countP fun s => g (exZ q V w s)) + ((frN V L).countP fun s => g (exZ q V w s)) := fun g w => by
  unfold exL frN freeL
  rw [List.countP_map]
  exact List.countP_eq_countP_filter_add _ _ _
 have same : ∀ g : Rat → Bool, (((seqI 1 (V.length - 2)).filter (hasX L)).countP fun s => g (exZ q V y s)) = (((seqI 1 (V.length - 2)).filter (hasX L)).countP fun s => g (exZ q V z s)) := fun g => by
  refine List.countP_congr fun s hm => ?_
  rw [hs s (List.mem_filter.1 hm).2]
 refine ⟨t, fun u hu => ?_, ?_⟩
 ·unfold cntGe
  rw [split, split]
  have e := same fun x => decide (u ≤ x)
  rw [e]
  have h0 : ((frN V L).countP fun s => decide (u ≤ exZ q V y s)) = 0 := by
   rw [List.countP_eq_zero]
   intro s hm
   have := hy s hm
   simp only [decide_eq_true_eq]
   grind
  rw [h0]
  omega
 ·unfold cntGt
  rw [split, split]
  have e := same fun x => decide (t < x)
  rw [e]
  have h0 : ((frN V L).countP fun s => decide (t < exZ q V y s)) = 0 := by
   rw [List.countP_eq_zero]
   intro s hm
   have := hy s hm
   simp only [decide_eq_true_eq]
   grind
  have h1 : 0 < ((frN V L).countP fun s => decide (t < exZ q V z s)) := by
   rw [List.countP_pos_iff]
   obtain ⟨s, hm, hs⟩ := hz
   exact ⟨s, hm, decide_eq_true hs⟩
  rw [h0]
  omega
theorem stage_more {p : Int} {V : List Int} {L : List (Int × Int × Int)} (h : stOk p V L = true) (hs : (nucLp p.toNat V L).status = 1) {y z : Nat → Rat} (hy : Meets p.toNat V L y) (hyf : ∀ s ∈ frN V L, exZ p.toNat V y s ≤ - val (nucLp p.toNat V L).value) (hz : Meets p.toNat V L z) :
 Meets p.toNat V (nextN V L (nucLp p.toNat V L)) z ∨ More (exL p.toNat V y) (exL p.toNat V z) := by
 obtain ⟨v1, _, v3, _⟩ := solveG_val hs
 by_cases hall : ∀ j, j < (frN V L).length → 0 < ((nucLp p.toNat V L).X[j]?.getD (0, 0)).1 → exZ p.toNat V z ((frN V L)[j]?.getD 0) = - val (nucLp p.toNat V L).value
 ·refine .inl ⟨hz.grand, fun f hf => ?_⟩
  unfold nextN at hf
  rcases List.mem_append.1 hf with hf | hf
  ·exact hz.fixed f hf
  ·unfold newF at hf
   obtain ⟨j, hj, rfl⟩ := List.mem_map.1 hf
   obtain ⟨hjl, hjx⟩ := List.mem_filter.1 hj
   have := hall j (List.mem_range.1 hjl) (of_decide_eq_true hjx)
   show exZ p.toNat V z ((frN V L)[j]?.getD 0) = val (negR (nucLp p.toNat V L).value)
   rw [val_neg]
   exact this
 ·refine .inr ?_
  obtain ⟨j, hj⟩ := Classical.not_forall.1 hall
  obtain ⟨hjl, hj⟩ := Classical.not_imp.1 hj
  obtain ⟨hjx, hne⟩ := Classical.not_imp.1 hj
  obtain ⟨k1, k2, k3⟩ := stage_avg h hs hz
  obtain ⟨i, hi, _, hlt⟩ := mean_some k2 k3 k1 hjl (x_pos v3 hs hjx) hne
  refine more_of (L := L) (fun s hsx => ?_) hyf ⟨(frN V L)[i]?.getD 0, by rw [List.getElem?_eq_getElem hi, Option.getD_some]; exact List.getElem_mem hi, hlt⟩
  obtain ⟨f, hf, rfl⟩ := hasX_mem hsx
  rw [hy.fixed f hf, hz.fixed f hf]
theorem hasX_app (L T : List (Int × Int × Int)) (s : Int) : hasX (L ++ T) s = (hasX L s || hasX T s) := by unfold hasX; rw [List.any_append]
theorem free_next {V : List Int} {L T : List (Int × Int × Int)} {s : Int} (h : s ∈ frN V L) : s ∈ frN V (L ++ T) ∨ ∃ f ∈ T, f.1 = s := by
 unfold frN freeL at h ⊢
 obtain ⟨h1, h2⟩ := List.mem_filter.1 h
 cases ht : hasX T s with
 | true => exact .inr (hasX_mem ht)
 | false =>
   refine .inl (List.mem_filter.2 ⟨h1, ?_⟩)
   rw [hasX_app, ht, Bool.or_false]
   exact h2
theorem next_free {V : List Int} {L T : List (Int × Int × Int)} {s : Int} (h : s ∈ frN V (L ++ T)) : s ∈ frN V L := by
 unfold frN freeL at h ⊢
 obtain ⟨h1, h2⟩ := List.mem_filter.1 h
 refine List.mem_filter.2 ⟨h1, ?_⟩
 rw [hasX_app] at h2
 cases hl : hasX L s with
 | true => rw [hl] at h2; cases h2
 | false => rfl
theorem nuc_least {p : Int} {V : List Int} : ∀ {f k : Nat} {L : List (Int × Int × Int)}, (nucF p V f L k).ok = true →
 Meets p.toNat V (nucF p V f L k).st (fun i => val ((nucF p V f L k).pt[i]?.getD (0, 0))) ∧ (∀ g ∈ L, g ∈ (nucF p V f L k).st) ∧
 (∀ s ∈ frN V L, exZ p.toNat V (fun i => val ((nucF p V f L k).pt[i]?.getD (0, 0))) s ≤ - val (nucLp p.toNat V L).value) ∧
 ∀ z, Meets p.toNat V L z → Meets p.toNat V (nucF p V f L k).st z ∨ More (exL p.toNat V (fun i => val ((nucF p V f L k).pt[i]?.getD (0, 0)))) (exL p.toNat V z)
 | 0, k, L, h => by cases h
 | f + 1, k, L, h => by
   by_cases hok : stOk p V L = true ∧ (nucLp p.toNat V L).status = 1
   ·obtain ⟨p1, p2⟩ := stage_pt hok.1 hok.2
    by_cases hd : doneN p V (nextN V L (nucLp p.toNat V L)) = true
    ·have e : nucF p V (f + 1) L k = ⟨true, ptN p.toNat (nucLp p.toNat V L), nextN V L (nucLp p.toNat V L), k + 1⟩ := by rw [nucF, if_pos hok, if_pos hd]
     rw [e]
     have hpt : ∀ s, exZ p.toNat V (fun i => val ((ptN p.toNat (nucLp p.toNat V L))[i]?.getD (0, 0))) s = exZ p.toNat V (fun i => - vrow (nucLp p.toNat V L).Y i) s := fun s => by
      unfold exZ zs
      congr 1
      refine sumN_congr fun i hi => ?_
      obtain ⟨_, _, _, v4, _⟩ := solveG_val hok.2
      have hyl : i < (nucLp p.toNat V L).Y.length := by
       have : (nucLp p.toNat V L).Y.length = (stB p.toNat).length := v4
       rw [this]
       unfold stB
       simp
       omega
      have e9 : (ptN p.toNat (nucLp p.toNat V L))[i]?.getD (0, 0) = negR ((nucLp p.toNat V L).Y[i]?.getD (0, 0)) := by
       unfold ptN
       rw [List.getElem?_map, List.getElem?_take, if_pos hi, List.getElem?_eq_getElem hyl]
       rfl
      show val ((ptN p.toNat (nucLp p.toNat V L))[i]?.getD (0, 0)) * _ = - vrow (nucLp p.toNat V L).Y i * _
      rw [e9, val_neg]
      rfl
     refine ⟨⟨by show exZ _ _ _ _ = 0; rw [hpt]; exact p1.grand, fun g hg => by show exZ _ _ _ _ = _; rw [hpt]; exact p1.fixed g hg⟩, fun g hg => List.mem_append.2 (.inl hg), fun s hs => by rw [hpt]; exact p2 s hs, fun z hz => ?_⟩
     refine stage_more hok.1 hok.2 ⟨by rw [hpt]; exact p1.grand, fun g hg => by rw [hpt]; exact p1.fixed g (List.mem_append.2 (.inl hg))⟩ (fun s hs => by rw [hpt]; exact p2 s hs) hz
    ·have e : nucF p V (f + 1) L k = nucF p V f (nextN V L (nucLp p.toNat V L)) (k + 1) := by rw [nucF, if_pos hok, if_neg hd]
     rw [e] at h ⊢
     obtain ⟨i1, i2, i3, i4⟩ := nuc_least h
     have hok2 : stOk p V (nextN V L (nucLp p.toNat V L)) = true ∧ (nucLp p.toNat V (nextN V L (nucLp p.toNat V L))).status = 1 := by
      false_or_by_contra
      rename_i hno
      cases f with
      | zero => cases h
      | succ f =>
        rw [nucF, if_neg hno] at h
        cases h
     have heps : - val (nucLp p.toNat V (nextN V L (nucLp p.toNat V L))).value ≤ - val (nucLp p.toNat V L).value := by
      obtain ⟨k1, k2, k3⟩ := stage_avg hok2.1 hok2.2 p1
      rw [← k1]
      refine mean_le k2 k3 fun j hj => p2 _ ?_
      refine next_free (T := newF (frN V L) (nucLp p.toNat V L) (frN V L).length) ?_
      show (frN V (nextN V L (nucLp p.toNat V L)))[j]?.getD 0 ∈ frN V (nextN V L (nucLp p.toNat V L))
      rw [List.getElem?_eq_getElem hj, Option.getD_some]
      exact List.getElem_mem hj
     have hyf : ∀ s ∈ frN V L, exZ p.toNat V (fun i => val ((nucF p V f (nextN V L (nucLp p.toNat V L)) (k + 1)).pt[i]?.getD (0, 0))) s ≤ - val (nucLp p.toNat V L).value := fun s hs => by
      rcases free_next (T := newF (frN V L) (nucLp p.toNat V L) (frN V L).length) hs with hs2 | ⟨g, hg, rfl⟩
      ·exact Rat.le_trans (i3 s hs2) heps
      ·have hfx := i1.fixed g (i2 g (List.mem_append.2 (.inr hg)))
       rw [hfx]
       unfold newF at hg
       obtain ⟨j, _, rfl⟩ := List.mem_map.1 hg
       show val (negR (nucLp p.toNat V L).value) ≤ _
       rw [val_neg]
       exact Rat.le_refl
     refine ⟨i1, fun g hg => i2 g (List.mem_append.2 (.inl hg)), hyf, fun z hz => ?_⟩
     rcases stage_more hok.1 hok.2 ⟨i1.grand, fun g hg => i1.fixed g (i2 g (List.mem_append.2 (.inl hg)))⟩ hyf hz with hm | hm
     ·exact i4 z hm
     ·exact .inr hm
   ·have e : nucF p V (f + 1) L k = NucR.no := by rw [nucF, if_neg hok]
    rw [e] at h
    cases h
open Go.RowKit
abbrev RR : Type := Int × Int
def cmpT (l : List RR) : Nat → List RR
 | 0 => []
 | k + 1 => if 0 < k ∧ l[k]?.getD (0, 0) = l[k - 1]?.getD (0, 0) then cmpT l k else cmpT l k ++ [l[k]?.getD (0, 0)]
theorem cmpT_skip {l : List RR} {k : Nat} (h : 0 < k) (e : l[k]?.getD (0, 0) = l[k - 1]?.getD (0, 0)) : cmpT l (k + 1) = cmpT l k := by rw [cmpT, if_pos ⟨h, e⟩]
theorem cmpT_take {l : List RR} {k : Nat} (h : ¬ (0 < k ∧ l[k]?.getD (0, 0) = l[k - 1]?.getD (0, 0))) : cmpT l (k + 1) = cmpT l k ++ [l[k]?.getD (0, 0)] := by rw [cmpT, if_neg h]
structure Cmpd (l M : List RR) (i j : Nat) : Prop where
 len : M.length = l.length
 lt : i < j
 pos : 0 < i
 jl : j ≤ l.length
 lo : M.take i = cmpT l j
 hi : ∀ k, i ≤ k → M[k]?.getD (0, 0) = l[k]?.getD (0, 0)
end Go.Proofs.YthjjfkeacobikaaGreat
