import Derived.Test.YthjjfkeacobikaaGreatMkAllG10
namespace Go.Proofs.YthjjfkeacobikaaGreat
set_option linter.unusedVariables false
def val (r : Int × Int) : Rat := (r.1 : Rat) / (r.2 : Rat)
theorem ratne {d : Int} (h : d ≠ 0) : (d : Rat) ≠ 0 := by exact_mod_cast h
theorem val_eq {r : Int × Int} {n d : Int} (h : Fr r n d) : val r = (n : Rat) / (d : Rat) := by
 obtain ⟨h1, h2, h3⟩ := h
 have hb := (valR_bd h1).1
 have e : (r.1 : Rat) * (d : Rat) = (n : Rat) * (r.2 : Rat) := by exact_mod_cast h3
 have a := ratne (show d ≠ 0 by omega)
 have b := ratne (show r.2 ≠ 0 by omega)
 unfold val
 grind
theorem val_inj {p q : Int × Int} (hp : valR p = true) (hq : valR q = true) (h : val p = val q) : p = q := by
 have hb := (valR_bd hp).1
 have kb := (valR_bd hq).1
 have a := ratne (show p.2 ≠ 0 by omega)
 have b := ratne (show q.2 ≠ 0 by omega)
 have e : (p.1 : Rat) * (q.2 : Rat) = (q.1 : Rat) * (p.2 : Rat) := by unfold val at h; grind
 have e' : p.1 * q.2 = q.1 * p.2 := by exact_mod_cast e
 have := low_eq (by omega) (by omega) (valR_gcd hp) (valR_gcd hq) e'
 exact Prod.ext this.1 this.2
theorem val_le {p q : Int × Int} (hp : valR p = true) (hq : valR q = true) : 0 ≤ cmpR p q ↔ val q ≤ val p := by
 have hb := (valR_bd hp).1
 have kb := (valR_bd hq).1
 have a : (0 : Rat) < (p.2 : Rat) := by exact_mod_cast (show 0 < p.2 by omega)
 have b : (0 : Rat) < (q.2 : Rat) := by exact_mod_cast (show 0 < q.2 by omega)
 have e : 0 ≤ cmpR p q ↔ q.1 * p.2 ≤ p.1 * q.2 := by
  unfold cmpR
  rw [if_pos (by rw [hp, hq]; rfl)]
  split
  ·omega
  ·split <;> omega
 rw [e]
 have e2 : q.1 * p.2 ≤ p.1 * q.2 ↔ (q.1 : Rat) * p.2 ≤ (p.1 : Rat) * q.2 := by
  constructor
  ·intro h; exact_mod_cast h
  ·intro h; exact_mod_cast h
 rw [e2]
 have x1 : (p.1 : Rat) = val p * p.2 := by unfold val; grind
 have x2 : (q.1 : Rat) = val q * q.2 := by unfold val; grind
 have hab : (0 : Rat) < (p.2 : Rat) * q.2 := Rat.mul_pos a b
 have x3 : (q.1 : Rat) * p.2 = val q * ((p.2 : Rat) * q.2) := by rw [x2]; grind
 have x4 : (p.1 : Rat) * q.2 = val p * ((p.2 : Rat) * q.2) := by rw [x1]; grind
 rw [x3, x4]
 exact ⟨fun h => Rat.le_of_mul_le_mul_right h hab, fun h => Rat.mul_le_mul_of_nonneg_right h (by grind)⟩
theorem val_nonneg {p : Int × Int} (hp : valR p = true) : 0 ≤ p.1 ↔ 0 ≤ val p := by
 have hb := (valR_bd hp).1
 have a : (0 : Rat) < (p.2 : Rat) := by exact_mod_cast (show 0 < p.2 by omega)
 have x1 : (p.1 : Rat) = val p * p.2 := by unfold val; grind
 have e : 0 ≤ p.1 ↔ (0 : Rat) * p.2 ≤ val p * p.2 := by
  rw [← x1]
  constructor
  ·intro h; have : (0 : Rat) ≤ (p.1 : Rat) := by exact_mod_cast h
   grind
  ·intro h; have : (0 : Rat) ≤ (p.1 : Rat) := by grind
   exact_mod_cast this
 rw [e]
 exact ⟨fun h => Rat.le_of_mul_le_mul_right h a, fun h => Rat.mul_le_mul_of_nonneg_right h (by grind)⟩
theorem val_whole (x : Int) : val (x, 1) = (x : Rat) := by unfold val; grind
theorem val_neg (r : Int × Int) : val (negR r) = - val r := by
 unfold val negR
 have : ((-r.1 : Int) : Rat) = - (r.1 : Rat) := by exact_mod_cast rfl
 simp only [this]; grind
theorem valR_negR (r : Int × Int) : valR (negR r) = valR r := valR_neg r.1 r.2
theorem inB_neg (n b : Int) : inB (-n) (-b) b = inB n (-b) b := by
 unfold inB
 rw [Bool.eq_iff_iff]; simp; omega
theorem ratOf_negneg (n d : Int) : ratOf (-n) (-d) = ratOf n d := by
 unfold ratOf
 have h1 := inB_neg n 1000000000000000000
 have h2 := inB_neg d 1000000000000000000
 rw [gI_negl, gI_negr, h1, h2]
 by_cases hd : d = 0
 ·subst hd; simp
 ·have : -d ≠ 0 := by omega
  simp only [hd, this, false_or]
  split
  ·rfl
  ·by_cases hn : d < 0
   ·rw [if_neg (by omega), if_pos hn]; simp [Int.neg_tdiv, Int.tdiv_neg]
   ·rw [if_pos (by omega), if_neg hn]; simp [Int.neg_tdiv, Int.tdiv_neg]
theorem ratOf_neg (n d : Int) : ratOf (-n) d = (negR (ratOf n d).1, (ratOf n d).2) := by
 unfold ratOf
 have h1 := inB_neg n 1000000000000000000
 rw [gI_negl, h1]
 have hc : ∀ a b : Int, cutR (-a, b) = (negR (cutR (a, b)).1, (cutR (a, b)).2) := by
  intro a b
  unfold cutR
  rw [valR_neg]
  split <;> rfl
 split
 ·rfl
 ·split
  ·rw [Int.neg_tdiv, hc]
  ·rw [Int.neg_tdiv, hc]
theorem val_ratOf {n d : Int} (h : (ratOf n d).2 = true) : d ≠ 0 ∧ valR (ratOf n d).1 = true ∧ val (ratOf n d).1 = (n : Rat) / (d : Rat) := by
 have hd : d ≠ 0 := by
  intro h0; subst h0; simp [ratOf] at h
 refine ⟨hd, ratOf_val h, ?_⟩
 rcases Int.lt_or_gt_of_ne hd with hlt | hgt
 ·have e := ratOf_negneg n d
  rw [← e] at h ⊢
  have := val_eq (ratOf_fr (by omega) h)
  rw [this]
  have a := ratne hd
  have e1 : ((-n : Int) : Rat) = - (n : Rat) := by exact_mod_cast rfl
  have e2 : ((-d : Int) : Rat) = - (d : Rat) := by exact_mod_cast rfl
  rw [e1, e2]; grind
 ·exact val_eq (ratOf_fr hgt h)
theorem both {a b : Bool} (h : (a && b) = true) : a = true ∧ b = true := by simpa using h
theorem val_add {a b : Int × Int} (h : (addR a b).2 = true) : valR a = true ∧ valR b = true ∧ valR (addR a b).1 = true ∧ val (addR a b).1 = val a + val b := by
 unfold addR at h ⊢
 split at h
 ·next h1 =>
  rw [if_pos h1]
  obtain ⟨ha, hb⟩ := both h1
  obtain ⟨h2, h3, h4⟩ := val_ratOf h
  refine ⟨ha, hb, h3, ?_⟩
  rw [h4]
  have e1 := ratne (show a.2 ≠ 0 by have := (valR_bd ha).1; omega)
  have e2 := ratne (show b.2 ≠ 0 by have := (valR_bd hb).1; omega)
  unfold val
  simp only [Rat.intCast_add, Rat.intCast_mul]
  grind
 ·simp at h
theorem val_sub {a b : Int × Int} (h : (subR a b).2 = true) : valR a = true ∧ valR b = true ∧ valR (subR a b).1 = true ∧ val (subR a b).1 = val a - val b := by
 rw [← subR_add] at h ⊢
 obtain ⟨h1, h2, h3, h4⟩ := val_add h
 rw [valR_neg] at h2
 refine ⟨h1, h2, h3, ?_⟩
 rw [h4]
 have := val_neg b
 unfold negR at this
 rw [this]; grind
theorem val_mul {a b : Int × Int} (h : (mulR a b).2 = true) : valR a = true ∧ valR b = true ∧ valR (mulR a b).1 = true ∧ val (mulR a b).1 = val a * val b := by
 unfold mulR at h ⊢
 split at h
 ·next h1 =>
  rw [if_pos h1]
  obtain ⟨ha, hb⟩ := both h1
  obtain ⟨h2, h3, h4⟩ := val_ratOf h
  refine ⟨ha, hb, h3, ?_⟩
  rw [h4]
  have e1 := ratne (show a.2 ≠ 0 by have := (valR_bd ha).1; omega)
  have e2 := ratne (show b.2 ≠ 0 by have := (valR_bd hb).1; omega)
  unfold val
  simp only [Rat.intCast_mul]
  grind
 ·simp at h
theorem val_div {a b : Int × Int} (h : (divR a b).2 = true) : valR a = true ∧ valR b = true ∧ valR (divR a b).1 = true ∧ val b ≠ 0 ∧ val (divR a b).1 = val a / val b := by
 unfold divR at h ⊢
 split at h
 ·next h1 =>
  rw [if_pos h1]
  obtain ⟨ha, hb⟩ := both h1
  obtain ⟨h2, h3, h4⟩ := val_ratOf h
  have e1 := ratne (show a.2 ≠ 0 by have := (valR_bd ha).1; omega)
  have e2 := ratne (show b.2 ≠ 0 by have := (valR_bd hb).1; omega)
  have e3 := ratne (show b.1 ≠ 0 by intro h0; rw [h0] at h2; simp at h2)
  refine ⟨ha, hb, h3, ?_, ?_⟩
  ·unfold val; grind
  ·rw [h4]
   unfold val
   simp only [Rat.intCast_mul]
   grind
 ·simp at h
theorem mulR_comm (a b : Int × Int) : mulR a b = mulR b a := by
 unfold mulR; rw [Bool.and_comm, Int.mul_comm a.1, Int.mul_comm a.2]
theorem mulR_neg (a b : Int × Int) : mulR a (negR b) = (negR (mulR a b).1, (mulR a b).2) := by
 unfold mulR
 rw [valR_negR]
 split
 ·have : a.1 * (negR b).1 = -(a.1 * b.1) := by unfold negR; simp only; grind
  rw [this, ratOf_neg]; rfl
 ·rfl
theorem addR_neg (a b : Int × Int) : addR (negR a) (negR b) = (negR (addR a b).1, (addR a b).2) := by
 unfold addR
 rw [valR_negR, valR_negR]
 split
 ·have : (negR a).1 * (negR b).2 + (negR b).1 * (negR a).2 = -(a.1 * b.2 + b.1 * a.2) := by unfold negR; simp only; grind
  rw [this, ratOf_neg]; rfl
 ·rfl
def sumN (f : Nat → Rat) : Nat → Rat
 | 0 => 0
 | k + 1 => sumN f k + f k
theorem sumN_lin (f g : Nat → Rat) (c : Rat) : ∀ m, sumN (fun k => f k + c * g k) m = sumN f m + c * sumN g m
 | 0 => by simp [sumN]; grind
 | m + 1 => by simp only [sumN, sumN_lin f g c m]; grind
theorem sumN_congr {f g : Nat → Rat} : ∀ {m}, (∀ k, k < m → f k = g k) → sumN f m = sumN g m
 | 0, _ => rfl
 | m + 1, h => by simp only [sumN, sumN_congr (m := m) (fun k hk => h k (by omega)), h m (by omega)]
theorem sumN_zero {f : Nat → Rat} : ∀ {m}, (∀ k, k < m → f k = 0) → sumN f m = 0
 | 0, _ => rfl
 | m + 1, h => by simp only [sumN, sumN_zero (m := m) (fun k hk => h k (by omega)), h m (by omega)]; grind
theorem sumN_one {f : Nat → Rat} {i : Nat} : ∀ {m}, i < m → (∀ k, k < m → k ≠ i → f k = 0) → sumN f m = f i
 | 0, hi, _ => absurd hi (by omega)
 | m + 1, hi, h => by
   by_cases him : i = m
   ·subst him
    simp only [sumN]
    rw [sumN_zero (fun k hk => h k (by omega) (by omega))]; grind
   ·simp only [sumN]
    rw [sumN_one (m := m) (by omega) (fun k hk hki => h k (by omega) hki), h m (by omega) (by omega)]; grind
def Rel (n m : Nat) (T0 : Nat → Nat → Rat) (c f : Nat → Rat) : Prop := ∀ j, j < n + m + 1 → f j - c j = sumN (fun k => (f (n + k) - c (n + k)) * T0 k j) m
theorem Rel.add {n m : Nat} {T0 : Nat → Nat → Rat} {c f g h : Nat → Rat} {k : Rat} (hf : Rel n m T0 c f) (hg : Rel n m T0 (fun _ => 0) g) (hh : ∀ j, j < n + m + 1 → h j = f j + k * g j) : Rel n m T0 c h := by
 intro j hj
 have h1 := hf j hj
 have h2 := hg j hj
 rw [hh j hj]
 have e : sumN (fun i => (h (n + i) - c (n + i)) * T0 i j) m = sumN (fun i => (f (n + i) - c (n + i)) * T0 i j + k * ((g (n + i) - 0) * T0 i j)) m :=
  sumN_congr fun i hi => by rw [hh (n + i) (by omega)]; grind
 rw [e, sumN_lin, ← h1, ← h2]; grind
theorem Rel.scale {n m : Nat} {T0 : Nat → Nat → Rat} {g h : Nat → Rat} {k : Rat} (hg : Rel n m T0 (fun _ => 0) g) (hh : ∀ j, j < n + m + 1 → h j = k * g j) : Rel n m T0 (fun _ => 0) h := by
 have h0 : Rel n m T0 (fun _ => 0) (fun _ => 0) := by
  intro j hj
  rw [sumN_zero (fun k hk => by grind)]; grind
 exact Rel.add h0 hg (k := k) (fun j hj => by rw [hh j hj]; grind)
def vrow (r : List (Int × Int)) (j : Nat) : Rat := val (r[j]?.getD (0, 0))
def okRow (N : Nat) (r : List (Int × Int)) : Prop := r.length = N ∧ ∀ j, j < N → valR (r[j]?.getD (0, 0)) = true
theorem sclL_spec {A B r : List (Int × Int)} {k : Int × Int} (h : sclL A k B = some r) : A.length = B.length ∧ r.length = A.length ∧ ∀ j, j < A.length → valR (r[j]?.getD (0, 0)) = true ∧ vrow r j = vrow A j + val k * vrow B j := by
 unfold sclL at h
 split at h
 ·next hl =>
  refine ⟨hl, runT_len h, fun j hj => ?_⟩
  have hs := runT_at h j hj
  unfold sclF at hs
  split at hs
  ·next h2 =>
   simp only [Option.some.injEq] at hs
   obtain ⟨e1, e2⟩ := h2
   obtain ⟨_, _, _, m4⟩ := val_mul e1
   obtain ⟨_, _, a3, a4⟩ := val_add e2
   rw [← hs]
   refine ⟨a3, ?_⟩
   unfold vrow
   rw [← hs, a4, m4]
  ·cases hs
 ·cases h
theorem divL_spec {A r : List (Int × Int)} {p : Int × Int} (h : divL A p = some r) : r.length = A.length ∧ ∀ j, j < A.length → valR (r[j]?.getD (0, 0)) = true ∧ val p ≠ 0 ∧ vrow r j = vrow A j / val p := by
 refine ⟨runT_len h, fun j hj => ?_⟩
 have hs := runT_at h j hj
 unfold divF at hs
 split at hs
 ·next h2 =>
  simp only [Option.some.injEq] at hs
  obtain ⟨_, _, d3, d4, d5⟩ := val_div h2
  rw [← hs]
  refine ⟨d3, d4, ?_⟩
  unfold vrow
  rw [← hs, d5]
 ·cases hs
structure TInv (n m : Nat) (T0 : Nat → Nat → Rat) (t : Tb) : Prop where
 cols : t.cols = n
 len : t.rows.length = m
 blen : t.basis.length = m
 bas : ∀ b ∈ t.basis, 0 ≤ b ∧ b < n + m
 row : ∀ i, i < m → okRow (n + m + 1) (t.row i)
 rel : ∀ i, i < m → Rel n m T0 (fun _ => 0) (vrow (t.row i))
theorem TInv.ok {n m : Nat} {T0 : Nat → Nat → Rat} {t : Tb} (h : TInv n m T0 t) (hn : n ≤ 1000) : tbOk t = true := by
 unfold tbOk
 have hc := h.cols
 have hl := h.len
 simp only [Bool.and_eq_true, inB, decide_eq_true_eq, List.all_eq_true]
 refine ⟨by omega, by rw [h.blen, hl], fun b hb => ?_, fun r hr => ?_⟩
 ·have := h.bas b hb; omega
 ·obtain ⟨i, hi, rfl⟩ := List.mem_iff_getElem.1 hr
  have := (h.row i (by omega)).1
  unfold Tb.row at this
  rw [List.getElem?_eq_getElem hi, Option.getD_some] at this
  omega
theorem row_set {rs : List (List (Int × Int))} {i k : Nat} {r : List (Int × Int)} (hi : i < rs.length) : (rs.set i r)[k]?.getD [] = if k = i then r else rs[k]?.getD [] := by
 by_cases h : k = i
 ·subst h; rw [if_pos rfl]; simp [hi]
 ·rw [if_neg h, List.getElem?_set_ne (fun e => h e.symm)]
theorem pivN_spec {n m : Nat} {T0 : Nat → Nat → Rat} {t : Tb} (h : TInv n m T0 t) {row col : Nat} (hr : row < m) {main : List (Int × Int)} (hm1 : okRow (n + m + 1) main) (hm2 : Rel n m T0 (fun _ => 0) (vrow main)) :
 ∀ {k : Nat} {st : List (List (Int × Int))}, k ≤ m → pivN t row col main k = some st → st.length = m ∧ ∀ i, i < m → okRow (n + m + 1) (st[i]?.getD []) ∧ Rel n m T0 (fun _ => 0) (vrow (st[i]?.getD []))
 | 0, st, hk, e => by
   simp only [pivN, Option.some.injEq] at e
   subst e
   refine ⟨by rw [List.length_set, h.len], fun i hi => ?_⟩
   rw [row_set (by rw [h.len]; exact hr)]
   split
   ·exact ⟨hm1, hm2⟩
   ·exact ⟨h.row i hi, h.rel i hi⟩
 | k + 1, st, hk, e => by
   simp only [pivN] at e
   cases e0 : pivN t row col main k with
   | none => rw [e0] at e; cases e
   | some s0 =>
     rw [e0] at e
     simp only [Option.bind_some] at e
     obtain ⟨hl, hs⟩ := pivN_spec h hr hm1 hm2 (by omega) e0
     unfold pivF at e
     split at e
     ·simp only [Option.some.injEq] at e; subst e; exact ⟨hl, hs⟩
     ·cases e1 : sclL (t.row k) (negR (t.at k col)) main with
      | none => rw [e1] at e; cases e
      | some r =>
        rw [e1] at e
        simp only [Option.map_some, Option.some.injEq] at e
        subst e
        obtain ⟨s1, s2, s3⟩ := sclL_spec e1
        have hlk := (h.row k (by omega)).1
        refine ⟨by rw [List.length_set, hl], fun i hi => ?_⟩
        rw [row_set (by rw [hl]; omega)]
        split
        ·refine ⟨⟨by rw [s2, hlk], fun j hj => (s3 j (by rw [hlk]; exact hj)).1⟩, ?_⟩
         exact Rel.add (h.rel k (by omega)) hm2 (k := val (negR (t.at k col))) (fun j hj => (s3 j (by rw [hlk]; exact hj)).2)
        ·exact hs i hi
theorem pivotT_inv {n m : Nat} {T0 : Nat → Nat → Rat} {t t' : Tb} (h : TInv n m T0 t) {row col : Int} (e : pivotT t row col = some t') : TInv n m T0 t' := by
 unfold pivotT at e
 split at e
 ·next ha =>
  unfold pivArgs at ha
  simp only [Bool.and_eq_true, inB, decide_eq_true_eq] at ha
  have hc := h.cols
  have hl := h.len
  have hrow : row.toNat < m := by omega
  have hcol : col.toNat < n + m := by omega
  unfold pivotG at e
  cases e0 : divL (t.row row.toNat) (t.at row.toNat col.toNat) with
  | none => rw [e0] at e; cases e
  | some main =>
    rw [e0] at e
    simp only [Option.bind_some] at e
    cases e1 : pivN t row.toNat col.toNat main t.rows.length with
    | none => rw [e1] at e; cases e
    | some rs =>
      rw [e1] at e
      simp only [Option.map_some, Option.some.injEq] at e
      subst e
      obtain ⟨d1, d2⟩ := divL_spec e0
      have hlr := (h.row _ hrow).1
      have hm1 : okRow (n + m + 1) main := ⟨by rw [d1, hlr], fun j hj => (d2 j (by rw [hlr]; exact hj)).1⟩
      have hm2 : Rel n m T0 (fun _ => 0) (vrow main) := Rel.scale (h.rel _ hrow) (k := 1 / val (t.at row.toNat col.toNat)) (fun j hj => by
       have := (d2 j (by rw [hlr]; exact hj)).2
       rw [this.2]; have := this.1; grind)
      obtain ⟨p1, p2⟩ := pivN_spec h hrow hm1 hm2 (by omega) e1
      exact ⟨hc, p1, by simp [h.blen], fun b hb => by
       rcases List.mem_or_eq_of_mem_set hb with h1 | h1
       ·exact h.bas b h1
       ·omega, fun i hi => (p2 i hi).1, fun i hi => (p2 i hi).2⟩
 ·cases e
theorem costN_spec {n m : Nat} {T0 : Nat → Nat → Rat} {t : Tb} (h : TInv n m T0 t) {cost : List (Int × Int)} (hl : cost.length = n + m) (hv : ∀ j, j < n + m → valR (cost[j]?.getD (0, 0)) = true) :
 ∀ {k : Nat} {cs : List (Int × Int)}, k ≤ m → costN t cost k = some cs → okRow (n + m + 1) cs ∧ Rel n m T0 (vrow (cost ++ [(0, 1)])) (vrow cs)
 | 0, cs, hk, e => by
   simp only [costN, Option.some.injEq] at e
   subst e
   refine ⟨⟨by simp [hl], fun j hj => ?_⟩, ?_⟩
   ·by_cases hj2 : j < n + m
    ·rw [List.getElem?_append_left (by omega)]; exact hv j hj2
    ·obtain rfl : j = n + m := by omega
     rw [← hl, List.getElem?_concat_length, Option.getD_some]; rfl
   ·intro j hj
    rw [sumN_zero (fun k hk => by grind)]; grind
 | k + 1, cs, hk, e => by
   simp only [costN] at e
   cases e0 : costN t cost k with
   | none => rw [e0] at e; cases e
   | some c0 =>
     rw [e0] at e
     simp only [Option.bind_some] at e
     obtain ⟨⟨h1, h2⟩, h3⟩ := costN_spec h hl hv (by omega) e0
     obtain ⟨s1, s2, s3⟩ := sclL_spec e
     exact ⟨⟨by rw [s2, h1], fun j hj => (s3 j (by rw [h1]; exact hj)).1⟩, Rel.add h3 (h.rel k (by omega)) (fun j hj => (s3 j (by rw [h1]; exact hj)).2)⟩
theorem costT_spec {n m : Nat} {T0 : Nat → Nat → Rat} {t : Tb} (h : TInv n m T0 t) {cost cs : List (Int × Int)} (e : costT t cost = some cs) : okRow (n + m + 1) cs ∧ Rel n m T0 (vrow (cost ++ [(0, 1)])) (vrow cs) := by
 unfold costT at e
 split at e
 ·next ho =>
  unfold costOk allV at ho
  simp only [Bool.and_eq_true, decide_eq_true_eq, List.all_eq_true] at ho
  have hc := h.cols
  have hl := h.len
  have hlen : cost.length = n + m := by omega
  rw [hl] at e
  exact costN_spec h hlen (fun j hj => by rw [List.getElem?_eq_getElem (by omega)]; exact ho.2.2 _ (List.getElem_mem _)) (Nat.le_refl _) e
 ·cases e
theorem phaseT_inv {n m : Nat} {T0 : Nat → Nat → Rat} {cost : List (Int × Int)} : ∀ {f : Nat} {t : Tb} {p : Ph}, TInv n m T0 t → phaseT cost f t = some p → TInv n m T0 p.t ∧ costT p.t cost = some p.costs ∧ p.left ≤ f := by
 intro f
 induction f with
 | zero =>
   intro t p h e
   unfold phaseT at e
   cases e0 : costT t cost with
   | none => rw [e0] at e; cases e
   | some cs =>
     rw [e0] at e
     simp only at e
     split at e
     ·simp only [Option.some.injEq] at e; subst e; exact ⟨h, e0, Nat.le_refl _⟩
     ·split at e
      ·simp only [Option.some.injEq] at e; subst e; exact ⟨h, e0, Nat.le_refl _⟩
      ·cases e
 | succ f ih =>
   intro t p h e
   unfold phaseT at e
   cases e0 : costT t cost with
   | none => rw [e0] at e; cases e
   | some cs =>
     rw [e0] at e
     simp only at e
     split at e
     ·simp only [Option.some.injEq] at e; subst e; exact ⟨h, e0, Nat.le_refl _⟩
     ·split at e
      ·simp only [Option.some.injEq] at e; subst e; exact ⟨h, e0, Nat.le_refl _⟩
      ·cases e1 : pivotT t (leaveT t (enterT cs t.cols)) (enterT cs t.cols) with
       | none => rw [e1] at e; cases e
       | some t' =>
         rw [e1] at e
         obtain ⟨a, b, c⟩ := ih (pivotT_inv h e1) e
         exact ⟨a, b, by omega⟩
theorem driveN_inv {n m : Nat} {T0 : Nat → Nat → Rat} {n' : Nat} {s : Tb × Nat} (h : TInv n m T0 s.1) : ∀ {k : Nat} {s' : Tb × Nat}, driveN n' s k = some s' → TInv n m T0 s'.1 ∧ s'.2 ≤ s.2
 | 0, s', e => by simp only [driveN, Option.some.injEq] at e; subst e; exact ⟨h, Nat.le_refl _⟩
 | k + 1, s', e => by
   simp only [driveN] at e
   cases e0 : driveN n' s k with
   | none => rw [e0] at e; cases e
   | some s1 =>
     rw [e0] at e
     simp only [Option.bind_some] at e
     obtain ⟨h1, h2⟩ := driveN_inv h e0
     unfold driveF at e
     split at e
     ·simp only [Option.some.injEq] at e; subst e; exact ⟨h1, h2⟩
     ·split at e
      ·simp only [Option.some.injEq] at e; subst e; exact ⟨h1, h2⟩
      ·split at e
       ·cases e
       ·next f hf =>
        rw [Option.map_eq_some_iff] at e
        obtain ⟨t', e1, rfl⟩ := e
        exact ⟨pivotT_inv h1 e1, by show f ≤ s.2; omega⟩
theorem dotN_spec {X Y : List (Int × Int)} : ∀ {k : Nat} {v : Int × Int}, dotN X Y k = some v → valR v = true ∧ (∀ j, j < k → valR (X[j]?.getD (0, 0)) = true ∧ valR (Y[j]?.getD (0, 0)) = true) ∧ val v = sumN (fun j => vrow X j * vrow Y j) k
 | 0, v, e => by
   simp only [dotN, Option.some.injEq] at e
   subst e
   refine ⟨rfl, fun j hj => absurd hj (by omega), ?_⟩
   unfold val sumN; simp; grind
 | k + 1, v, e => by
   simp only [dotN] at e
   cases e0 : dotN X Y k with
   | none => rw [e0] at e; cases e
   | some s =>
     rw [e0] at e
     simp only [Option.bind_some] at e
     split at e
     ·next h2 =>
      simp only [Option.some.injEq] at e
      obtain ⟨h3, h4, h5⟩ := dotN_spec e0
      obtain ⟨m1, m2, m3, m4⟩ := val_mul h2.1
      obtain ⟨a1, a2, a3, a4⟩ := val_add h2.2
      rw [← e]
      refine ⟨a3, fun j hj => ?_, ?_⟩
      ·by_cases hjk : j < k
       ·exact h4 j hjk
       ·obtain rfl : j = k := by omega
        exact ⟨m1, m2⟩
      ·rw [a4, m4, h5]; rfl
     ·cases e
theorem dotL_spec {X Y : List (Int × Int)} {v : Int × Int} (e : dotL X Y = some v) : X.length = Y.length ∧ valR v = true ∧ (∀ j, j < X.length → valR (X[j]?.getD (0, 0)) = true ∧ valR (Y[j]?.getD (0, 0)) = true) ∧ val v = sumN (fun j => vrow X j * vrow Y j) X.length := by
 unfold dotL at e
 split at e
 ·next h => exact ⟨h, dotN_spec e⟩
 ·cases e
theorem dotN_comm (X Y : List (Int × Int)) : ∀ k, dotN X Y k = dotN Y X k
 | 0 => rfl
 | k + 1 => by simp only [dotN, dotN_comm X Y k, mulR_comm (X[k]?.getD (0, 0))]
theorem dotL_comm (X Y : List (Int × Int)) : dotL X Y = dotL Y X := by
 unfold dotL
 by_cases h : X.length = Y.length
 ·rw [if_pos h, if_pos h.symm, h, dotN_comm]
 ·rw [if_neg h, if_neg (fun e => h e.symm)]
theorem getD_map_neg (Y : List (Int × Int)) (k : Nat) : (Y.map negR)[k]?.getD (0, 0) = negR (Y[k]?.getD (0, 0)) := by
 rw [List.getElem?_map]; cases Y[k]? <;> rfl
theorem dotN_neg (X Y : List (Int × Int)) : ∀ k, dotN X (Y.map negR) k = (dotN X Y k).map negR
 | 0 => rfl
 | k + 1 => by
   simp only [dotN, dotN_neg X Y k, getD_map_neg, mulR_neg]
   cases dotN X Y k with
   | none => rfl
   | some s =>
     simp only [Option.map_some, Option.bind_some, addR_neg]
     split <;> rfl
theorem dotL_neg (X Y : List (Int × Int)) : dotL X (Y.map negR) = (dotL X Y).map negR := by
 unfold dotL
 rw [List.length_map]
 split
 ·exact dotN_neg X Y _
 ·rfl
theorem wholeL_neg (l : List Int) : wholeL (l.map fun x => -x) = (wholeL l).map negR := by
 unfold wholeL; rw [List.map_map, List.map_map]; rfl
def niceC (A : List (List Int)) (C : List (Int × Int)) (j : Nat) : Prop :=
 (∃ x : Int, C[j]?.getD (0, 0) = (x, 1) ∧ -1000000 ≤ x ∧ x ≤ 1000000) ∨ ∃ j', j' < C.length ∧ C[j']?.getD (0, 0) = negR (C[j]?.getD (0, 0)) ∧ colL A j' = (colL A j).map fun x => -x
theorem bound_le {A : List (List Int)} {Y C : List (Int × Int)} {j : Nat} (h : boundI A Y C j = true) : boundS A Y C j = true := by
 unfold boundI at h
 unfold boundS
 cases e : dotL Y (wholeL (colL A j)) with
 | none => rw [e] at h; cases h
 | some v =>
   rw [e] at h
   simp only [Bool.and_eq_true, decide_eq_true_eq] at h ⊢
   obtain ⟨s1, s2, s3, s4⟩ := val_sub h.1
   rw [val_le s1 s2]
   have := (val_nonneg s3).1 h.2
   rw [s4] at this; grind
theorem fit_sub {x : Int} {v c : Int × Int} (h1 : -1000000 ≤ x) (h2 : x ≤ 1000000) (hv : valR v = true) (hc : valR c = true) (e : val c = (x : Rat) - val v) : subR (x, 1) v = (c, true) := by
 have hb := valR_bd hv
 have kb := valR_bd hc
 have hx : valR (x, 1) = true := (Fr.int x (by omega) (by omega)).1
 have hn : (x * v.2).natAbs ≤ 1000000 * 1000000000 := by
  rw [Int.natAbs_mul]; exact Nat.mul_le_mul (by omega) (by omega)
 have key : (x * v.2 - v.1 * 1) * c.2 = c.1 * (1 * v.2) := by
  have a := ratne (show v.2 ≠ 0 by omega)
  have b := ratne (show c.2 ≠ 0 by omega)
  have : ((x : Rat) * v.2 - v.1) * c.2 = c.1 * v.2 := by unfold val at e; grind
  have h3 : (x * v.2 - v.1) * c.2 = c.1 * v.2 := by exact_mod_cast this
  grind
 unfold subR
 rw [if_pos (by rw [hx, hv]; rfl)]
 simp only
 obtain ⟨r, e1, e2⟩ := ratOf_is (n := x * v.2 - v.1 * 1) (d := 1 * v.2) (x := c.1) (D := c.2) (by omega) (by omega) (by omega) (by omega) (by omega) (by omega) key
 rw [e1]
 have := Fr.eq e2 (Fr.self hc) rfl
 rw [this]
theorem bound_int {A : List (List Int)} {Y C : List (Int × Int)} {j : Nat} {c : Int × Int} (hc : valR c = true) (hn : ∃ x : Int, C[j]?.getD (0, 0) = (x, 1) ∧ -1000000 ≤ x ∧ x ≤ 1000000) (h : boundS A Y C j = true)
 (e : ∀ v, dotL Y (wholeL (colL A j)) = some v → val c = val (C[j]?.getD (0, 0)) - val v) : boundI A Y C j = true := by
 obtain ⟨x, hx, h1, h2⟩ := hn
 unfold boundS at h
 unfold boundI
 cases e0 : dotL Y (wholeL (colL A j)) with
 | none => rw [e0] at h; cases h
 | some v =>
   rw [e0] at h
   have hcv := e v e0
   have hv := (dotL_spec e0).2.1
   simp only [hx, decide_eq_true_eq] at h hcv ⊢
   rw [val_whole] at hcv
   rw [fit_sub h1 h2 hv hc hcv]
   simp only [Bool.true_and, decide_eq_true_eq]
   rw [val_nonneg hc, hcv]
   have := (val_le (Fr.int x (by omega) (by omega)).1 hv).1 h
   rw [val_whole] at this; grind
theorem subR_self {c : Int × Int} (h : valR c = true) : subR c c = ((0, 1), true) := by
 have hb := valR_bd h
 unfold subR
 rw [if_pos (by rw [h]; rfl), Int.sub_self]
 have hp : 0 < c.2 * c.2 := Int.mul_pos (by omega) (by omega)
 obtain ⟨r, e1, e2⟩ := ratOf_is (n := 0) (d := c.2 * c.2) (x := 0) (D := 1) hp (by omega) (bd18 ⟨by omega, hb.2.1⟩ ⟨by omega, hb.2.1⟩).2 (by omega) (by omega) (by omega) (by omega)
 rw [e1]
 have := Fr.eq e2 (Fr.int 0 (by omega) (by omega)) rfl
 rw [this]
theorem bound_pair {A : List (List Int)} {Y C : List (Int × Int)} {j j' : Nat} (hv : valR (C[j]?.getD (0, 0)) = true) (e1 : C[j']?.getD (0, 0) = negR (C[j]?.getD (0, 0))) (e2 : colL A j' = (colL A j).map fun x => -x)
 (h : boundS A Y C j = true) (h' : boundS A Y C j' = true) : boundI A Y C j = true := by
 unfold boundS at h h'
 unfold boundI
 rw [e2, wholeL_neg, dotL_neg, e1] at h'
 cases e0 : dotL Y (wholeL (colL A j)) with
 | none => rw [e0] at h; cases h
 | some v =>
   rw [e0] at h h'
   have hvv := (dotL_spec e0).2.1
   simp only [decide_eq_true_eq, Option.map_some] at h h'
   rw [val_le hv hvv] at h
   rw [val_le (by rw [valR_negR]; exact hv) (by rw [valR_negR]; exact hvv), val_neg, val_neg] at h'
   have hval : val (C[j]?.getD (0, 0)) = val v := by grind
   have := val_inj hv hvv hval
   simp only
   rw [this, subR_self hvv]; rfl
theorem okLP_parts {A : List (List Int)} {B : List Int} {C : List (Int × Int)} (h : okLP A B C = true) : C.length ≤ 70 ∧ A.length ≤ 8 ∧ B.length = A.length ∧ (∀ j, j < C.length → valR (C[j]?.getD (0, 0)) = true) ∧
 (∀ i, i < A.length → (A[i]?.getD []).length = C.length ∧ ∀ x ∈ A[i]?.getD [], -5000 ≤ x ∧ x ≤ 5000) ∧ ∀ i, i < B.length → -5000 ≤ B[i]?.getD 0 ∧ B[i]?.getD 0 ≤ 5000 := by
 unfold okLP allV at h
 simp only [Bool.and_eq_true, decide_eq_true_eq, List.all_eq_true, inB] at h
 obtain ⟨h1, h2, h3, h4, h5, h6⟩ := h
 refine ⟨h1, h2, h3, fun j hj => ?_, fun i hi => ?_, fun i hi => ?_⟩
 ·rw [List.getElem?_eq_getElem hj]; exact h4 _ (List.getElem_mem _)
 ·rw [List.getElem?_eq_getElem hi]; exact h5 _ (List.getElem_mem _)
 ·rw [List.getElem?_eq_getElem hi]; exact h6 _ (List.getElem_mem _)
theorem sideI_cases (b : Int) : (b < 0 ∧ sideI b = -1) ∨ (¬ b < 0 ∧ sideI b = 1) := by
 unfold sideI; by_cases h : b < 0
 ·exact .inl ⟨h, if_pos h⟩
 ·exact .inr ⟨h, if_neg h⟩
theorem startRow_at {A : List (List Int)} {B : List Int} {n : Nat} {i : Nat} (hl : (A[i]?.getD []).length = n) (hi : i < A.length) :
 (startRow A B i).length = n + A.length + 1 ∧ (∀ j, j < n → (startRow A B i)[j]?.getD (0, 0) = (sideI (B[i]?.getD 0) * (A[i]?.getD [])[j]?.getD 0, 1)) ∧ (∀ k, k < A.length → (startRow A B i)[n + k]?.getD (0, 0) = if k = i then (1, 1) else (0, 1)) ∧ (startRow A B i)[n + A.length]?.getD (0, 0) = (sideI (B[i]?.getD 0) * B[i]?.getD 0, 1) := by
 have e1 : ((A[i]?.getD []).map fun x => (sideI (B[i]?.getD 0) * x, (1 : Int))).length = n := by rw [List.length_map, hl]
 have e2 : (unitL A.length i).length = A.length := by simp [unitL]
 unfold startRow
 refine ⟨by simp [hl, e2]; omega, fun j hj => ?_, fun k hk => ?_, ?_⟩
 ·rw [List.getElem?_append_left (by rw [List.length_append, e1]; omega), List.getElem?_append_left (by omega), List.getElem?_map]
  rw [List.getElem?_eq_getElem (l := A[i]?.getD []) (by rw [hl]; exact hj)]; rfl
 ·rw [List.getElem?_append_left (by rw [List.length_append, e1, e2]; omega), List.getElem?_append_right (by omega), e1, Nat.add_sub_cancel_left]
  unfold unitL
  rw [List.getElem?_map, List.getElem?_range hk]; rfl
 ·rw [List.getElem?_append_right (by rw [List.length_append, e1, e2]; omega), List.length_append, e1, e2]; simp
theorem val_ints (x : Int) (h : -1000000000 ≤ x) (h' : x ≤ 1000000000) : valR (x, 1) = true := (Fr.int x h h').1
theorem start_inv {A : List (List Int)} {B : List Int} {C : List (Int × Int)} (h : okLP A B C = true) : TInv C.length A.length (fun k j => vrow (startRow A B k) j) (startT A B C.length) := by
 obtain ⟨h1, h2, h3, h4, h5, h6⟩ := okLP_parts h
 have hrow : ∀ i, i < A.length → (startT A B C.length).row i = startRow A B i := by
  intro i hi
  unfold startT Tb.row
  simp only [List.getElem?_map, List.getElem?_range hi, Option.map_some, Option.getD_some]
 refine ⟨rfl, by simp [startT], by simp [startT], fun b hb => ?_, fun i hi => ?_, fun i hi => ?_⟩
 ·simp only [startT, List.mem_map, List.mem_range] at hb
  obtain ⟨i, hi, rfl⟩ := hb
  omega
 ·rw [hrow i hi]
  obtain ⟨r1, r2, r3, r4⟩ := startRow_at (B := B) (h5 i hi).1 hi
  refine ⟨r1, fun j hj => ?_⟩
  by_cases hj1 : j < C.length
  ·rw [r2 j hj1]
   have hm : (A[i]?.getD [])[j]?.getD 0 ∈ A[i]?.getD [] := by
    rw [List.getElem?_eq_getElem (l := A[i]?.getD []) (by rw [(h5 i hi).1]; exact hj1)]
    exact List.getElem_mem _
   have hbd := (h5 i hi).2 _ hm
   refine val_ints _ ?_ ?_ <;> rcases sideI_cases (B[i]?.getD 0) with ⟨_, e⟩ | ⟨_, e⟩ <;> rw [e] <;> omega
  ·by_cases hj2 : j < C.length + A.length
   ·obtain ⟨k, rfl⟩ : ∃ k, j = C.length + k := ⟨j - C.length, by omega⟩
    rw [r3 k (by omega)]; split <;> rfl
   ·obtain rfl : j = C.length + A.length := by omega
    rw [r4]
    have := h6 i (by omega)
    refine val_ints _ ?_ ?_ <;> rcases sideI_cases (B[i]?.getD 0) with ⟨_, e⟩ | ⟨_, e⟩ <;> rw [e] <;> omega
 ·rw [hrow i hi]
  obtain ⟨r1, r2, r3, r4⟩ := startRow_at (B := B) (h5 i hi).1 hi
  intro j hj
  rw [sumN_one (i := i) hi]
  ·unfold vrow
   rw [r3 i hi, if_pos rfl]
   have : val (1, 1) = 1 := by unfold val; grind
   rw [this]; grind
  ·intro k hk hki
   unfold vrow
   rw [r3 k hk, if_neg hki]
   have : val (0, 1) = 0 := by unfold val; grind
   rw [this]; grind
theorem sumN_neg (f : Nat → Rat) : ∀ m, sumN (fun k => - f k) m = - sumN f m
 | 0 => by simp [sumN]
 | m + 1 => by simp only [sumN, sumN_neg f m]; grind
theorem side_val (b x : Int) : val (sideI b * x, 1) = (sideI b : Rat) * (x : Rat) := by rw [val_whole]; exact_mod_cast rfl
theorem dualO_val (B : List Int) (cs : List (Int × Int)) (n i : Nat) : val (dualO B cs n i) = - ((sideI (B[i]?.getD 0) : Rat) * vrow cs (n + i)) := by
 unfold dualO sgnR
 rcases sideI_cases (B[i]?.getD 0) with ⟨h, e⟩ | ⟨h, e⟩
 ·rw [if_pos h, e, val_neg, val_neg]; unfold vrow
  have : ((-1 : Int) : Rat) = -1 := by exact_mod_cast rfl
  rw [this]; grind
 ·rw [if_neg h, e, val_neg]; unfold vrow
  have : ((1 : Int) : Rat) = 1 := by exact_mod_cast rfl
  rw [this]; grind
theorem raw_opt {A : List (List Int)} {B : List Int} {C : List (Int × Int)} (ok : okLP A B C = true) {r : LpR} (h : rawT A B C = some r) (hs : r.status = 1) :
 ∃ cs, okRow (C.length + A.length + 1) cs ∧ r.Y.length = B.length ∧ r.value = negR (cs[C.length + A.length]?.getD (0, 0)) ∧ (∀ j, j < C.length → vrow cs j = val (C[j]?.getD (0, 0)) - sumN (fun k => vrow r.Y k * (((A[k]?.getD [])[j]?.getD 0 : Int) : Rat)) A.length) ∧
   vrow cs (C.length + A.length) = - sumN (fun k => vrow r.Y k * ((B[k]?.getD 0 : Int) : Rat)) A.length := by
 obtain ⟨h1, h2, h3, h4, h5, h6⟩ := okLP_parts ok
 unfold rawT at h
 rw [h3] at h
 cases e1 : phaseT (costs1 C.length A.length) 1000 (startT A B C.length) with
 | none => rw [e1] at h; cases h
 | some p1 =>
   rw [e1] at h
   simp only [Option.bind_some] at h
   split at h
   ·rw [Option.map_eq_some_iff] at h
    obtain ⟨Y, _, rfl⟩ := h
    cases hs
   ·cases e2 : driveN C.length (p1.t, p1.left) A.length with
    | none => rw [e2] at h; cases h
    | some s =>
      rw [e2] at h
      simp only [Option.bind_some] at h
      rw [Option.map_eq_some_iff] at h
      obtain ⟨p2, e3, h⟩ := h
      split at h
      ·subst h; cases hs
      ·have i1 := (phaseT_inv (start_inv ok) e1).1
       have i2 := (driveN_inv (s := (p1.t, p1.left)) i1 e2).1
       obtain ⟨i3, e4, _⟩ := phaseT_inv i2 e3
       obtain ⟨c1, c2⟩ := costT_spec i3 e4
       subst h
       have hc2 : ∀ j, (costs2 C A.length ++ [(0, 1)])[j]?.getD (0, 0) = if j < C.length then C[j]?.getD (0, 0) else if j < C.length + A.length + 1 then (0, 1) else (0, 0) := by
        intro j
        unfold costs2
        by_cases hj : j < C.length
        ·rw [if_pos hj, List.append_assoc, List.getElem?_append_left hj]
        ·rw [if_neg hj, List.append_assoc, List.getElem?_append_right (by omega)]
         have : List.replicate A.length ((0 : Int), (1 : Int)) ++ [(0, 1)] = List.replicate (A.length + 1) (0, 1) := by rw [List.replicate_succ']
         rw [this, List.getElem?_replicate]
         by_cases hj2 : j < C.length + A.length + 1
         ·rw [if_pos hj2, if_pos (by omega)]; rfl
         ·rw [if_neg hj2, if_neg (by omega)]; rfl
       have hz : ∀ k, k < A.length + 1 → vrow (costs2 C A.length ++ [(0, 1)]) (C.length + k) = 0 := by
        intro k hk
        unfold vrow
        rw [hc2, if_neg (by omega), if_pos (by omega)]
        unfold val; grind
       have hY : ∀ k, k < A.length → vrow ((List.range A.length).map (dualO B p2.costs C.length)) k = - ((sideI (B[k]?.getD 0) : Rat) * vrow p2.costs (C.length + k)) := by
        intro k hk
        unfold vrow
        rw [List.getElem?_map, List.getElem?_range hk, Option.map_some, Option.getD_some, dualO_val]; rfl
       refine ⟨p2.costs, c1, by simp [h3], rfl, fun j hj => ?_, ?_⟩
       ·have hr := c2 j (by omega)
        have hcj : vrow (costs2 C A.length ++ [(0, 1)]) j = val (C[j]?.getD (0, 0)) := by unfold vrow; rw [hc2, if_pos hj]
        have hsum : sumN (fun k => (vrow p2.costs (C.length + k) - vrow (costs2 C A.length ++ [(0, 1)]) (C.length + k)) * vrow (startRow A B k) j) A.length = sumN (fun k => - (vrow ((List.range A.length).map (dualO B p2.costs C.length)) k * (((A[k]?.getD [])[j]?.getD 0 : Int) : Rat))) A.length :=
         sumN_congr fun k hk => by
          rw [hz k (by omega), hY k hk]
          have : vrow (startRow A B k) j = (sideI (B[k]?.getD 0) : Rat) * (((A[k]?.getD [])[j]?.getD 0 : Int) : Rat) := by
           unfold vrow; rw [(startRow_at (B := B) (h5 k hk).1 hk).2.1 j hj, side_val]
          rw [this]; grind
        rw [hsum, sumN_neg, hcj] at hr
        simp only
        grind
       ·have hr := c2 (C.length + A.length) (by omega)
        have hsum : sumN (fun k => (vrow p2.costs (C.length + k) - vrow (costs2 C A.length ++ [(0, 1)]) (C.length + k)) * vrow (startRow A B k) (C.length + A.length)) A.length = sumN (fun k => - (vrow ((List.range A.length).map (dualO B p2.costs C.length)) k * ((B[k]?.getD 0 : Int) : Rat))) A.length :=
         sumN_congr fun k hk => by
          rw [hz k (by omega), hY k hk]
          have : vrow (startRow A B k) (C.length + A.length) = (sideI (B[k]?.getD 0) : Rat) * ((B[k]?.getD 0 : Int) : Rat) := by
           unfold vrow; rw [(startRow_at (B := B) (h5 k hk).1 hk).2.2.2, side_val]
          rw [this]; grind
        rw [hsum, sumN_neg, hz A.length (by omega)] at hr
        simp only
        grind
theorem colL_at (A : List (List Int)) (j k : Nat) (hk : k < A.length) : (colL A j)[k]?.getD 0 = (A[k]?.getD [])[j]?.getD 0 := by
 unfold colL
 rw [List.getElem?_map, List.getElem?_eq_getElem hk]; rfl
theorem check_eq {A : List (List Int)} {B : List Int} {C : List (Int × Int)} (ok : okLP A B C = true) (hn : ∀ j, j < C.length → niceC A C j) {r : LpR} (h : rawT A B C = some r) : checkG boundI A B C r = checkG boundS A B C r := by
 unfold checkG
 split
 ·next hs =>
  obtain ⟨cs, c1, c2, c3, c4, c5⟩ := raw_opt ok h hs
  obtain ⟨h1, h2, h3, h4, h5, h6⟩ := okLP_parts ok
  have key : (List.range C.length).all (boundI A r.Y C) = (List.range C.length).all (boundS A r.Y C) := by
   rw [Bool.eq_iff_iff, List.all_eq_true, List.all_eq_true]
   constructor
   ·intro ha j hj; exact bound_le (ha j hj)
   ·intro ha j hj
    have hj' := List.mem_range.1 hj
    rcases hn j hj' with hi | ⟨j', hj2, e1, e2⟩
    ·refine bound_int (c1.2 j (by omega)) hi (ha j hj) fun v hv => ?_
     have := c4 j hj'
     unfold vrow at this
     rw [this]
     obtain ⟨d1, d2, d3, d4⟩ := dotL_spec hv
     rw [d4, c2, h3]
     congr 1
     refine sumN_congr fun k hk => ?_
     unfold vrow
     rw [wholeL_at (by simp [colL]; omega), colL_at A j k hk, val_whole]
    ·exact bound_pair (h4 j hj') e1 e2 (ha j hj) (ha j' (List.mem_range.2 hj2))
  rw [key]
 ·rfl
theorem solve_eq {A : List (List Int)} {B : List Int} {C : List (Int × Int)} (hn : okLP A B C = true → ∀ j, j < C.length → niceC A C j) : solveG boundI A B C = solveG boundS A B C := by
 unfold solveG
 split
 ·next ok =>
  cases e : rawT A B C with
  | none => rfl
  | some r => simp only [check_eq ok (hn ok) e]
 ·rfl
def dualS (B : List Int) (base : Int × Int) (cs : List (Int × Int)) (n i : Nat) : Int × Int := sgnR (B[i]?.getD 0) (subR base (cs[n + i]?.getD (0, 0))).1
def rawS (A : List (List Int)) (B : List Int) (C : List (Int × Int)) : Option LpR :=
 (phaseT (costs1 C.length B.length) 1000 (startT A B C.length)).bind fun p1 =>
   if (p1.costs[C.length + B.length]?.getD (0, 0)).1 < 0 then
    some ⟨2, [], (List.range B.length).map (dualS B (1, 1) p1.costs C.length), [], (0, 0), 1000 - p1.left⟩
   else (driveN C.length (p1.t, p1.left) B.length).bind fun s => (phaseT (costs2 C B.length) s.2 s.1).map fun p2 =>
    if 0 ≤ p2.col then ⟨3, (solT p2.t).take C.length, [], rayN p2.t C.length p2.col.toNat B.length, (0, 0), 1000 - p2.left⟩
    else ⟨1, (solT p2.t).take C.length, (List.range B.length).map (dualS B (0, 1) p2.costs C.length), [], negR (p2.costs[C.length + B.length]?.getD (0, 0)), 1000 - p2.left⟩
def solveS (A : List (List Int)) (B : List Int) (C : List (Int × Int)) : LpR :=
 if okLP A B C = true then
  match rawS A B C with
  | none => lpZero 4
  | some r => if checkG boundS A B C r = true then r else lpZero 4
 else lpZero 0
theorem dualS_some {B : List Int} {base : Int × Int} {cs : List (Int × Int)} {n i : Nat} {x : Int × Int} (h : dualF B base cs n i = some x) : dualS B base cs n i = x := by
 unfold dualF at h
 split at h
 ·exact Option.some.inj h
 ·cases h
theorem subR_badz {a b : Int × Int} (h : (subR a b).2 = false) : (subR a b).1 = (0, 0) := by
 unfold subR at h ⊢
 split
 ·next hv => rw [if_pos hv] at h; exact ratOf_no h
 ·rfl
theorem dualS_none {B : List Int} {base : Int × Int} {cs : List (Int × Int)} {n i : Nat} (h : dualF B base cs n i = none) : valR (dualS B base cs n i) = false := by
 unfold dualF at h
 split at h
 ·cases h
 ·next hf =>
  unfold dualS
  rw [subR_badz (by simpa using hf)]
  unfold sgnR negR
  split <;> rfl
theorem dualS_opt {B : List Int} {cs : List (Int × Int)} {n i : Nat} (hv : valR (cs[n + i]?.getD (0, 0)) = true) : dualS B (0, 1) cs n i = dualO B cs n i := by
 unfold dualS dualO
 rw [fit_sub (x := 0) (c := negR (cs[n + i]?.getD (0, 0))) (by omega) (by omega) hv (by rw [valR_negR]; exact hv) (by rw [val_neg]; grind)]
theorem runT_fails {f : Nat → Option (Int × Int)} : ∀ {k : Nat}, runT f k = none → ∃ i, i < k ∧ f i = none
 | 0, h => by cases h
 | k + 1, h => by
   cases hk : runT f k with
   | none => obtain ⟨i, hi, hf⟩ := runT_fails hk; exact ⟨i, by omega, hf⟩
   | some l =>
     cases hf : f k with
     | none => exact ⟨k, by omega, hf⟩
     | some x => rw [runT_some hk hf] at h; cases h
theorem rawS_eq {A : List (List Int)} {B : List Int} {C : List (Int × Int)} (ok : okLP A B C = true) :
 rawS A B C = rawT A B C ∨ (rawT A B C = none ∧ ∃ r, rawS A B C = some r ∧ checkG boundS A B C r = false) := by
 obtain ⟨h1, h2, h3, h4, h5, h6⟩ := okLP_parts ok
 unfold rawS rawT
 cases e1 : phaseT (costs1 C.length B.length) 1000 (startT A B C.length) with
 | none => exact Or.inl rfl
 | some p1 =>
   simp only [Option.bind_some]
   by_cases hneg : (p1.costs[C.length + B.length]?.getD (0, 0)).1 < 0
   ·rw [if_pos hneg, if_pos hneg]
    cases hr : runT (dualF B (1, 1) p1.costs C.length) B.length with
    | some Y =>
      left
      have hY : (List.range B.length).map (dualS B (1, 1) p1.costs C.length) = Y := by
       have := runT_all (f := dualF B (1, 1) p1.costs C.length) (F := dualS B (1, 1) p1.costs C.length) (k := B.length) fun i hi => by
        have := runT_at hr i hi
        rw [this, dualS_some this]
       rw [hr] at this
       exact (Option.some.inj this).symm
      rw [hY]; rfl
    | none =>
      right
      refine ⟨rfl, _, rfl, ?_⟩
      obtain ⟨i, hi, hf⟩ := runT_fails hr
      have hv := dualS_none hf
      unfold checkG
      rw [if_neg (by simp), if_pos rfl]
      simp only
      rw [Bool.and_eq_false_iff]
      right
      unfold proofNo
      rw [Bool.and_eq_false_iff]
      right
      cases hd : dotL ((List.range B.length).map (dualS B (1, 1) p1.costs C.length)) (wholeL B) with
      | none => rfl
      | some v =>
        exfalso
        have := ((dotL_spec hd).2.2.1 i (by simpa using hi)).1
        rw [List.getElem?_map, List.getElem?_range hi, Option.map_some, Option.getD_some, hv] at this
        cases this
   ·rw [if_neg hneg, if_neg hneg]
    left
    cases e2 : driveN C.length (p1.t, p1.left) B.length with
    | none => rfl
    | some s =>
      simp only [Option.bind_some]
      cases e3 : phaseT (costs2 C B.length) s.2 s.1 with
      | none => rfl
      | some p2 =>
        simp only [Option.map_some]
        split
        ·rfl
        ·have i1 := (phaseT_inv (start_inv ok) e1).1
         have i2 := (driveN_inv (s := (p1.t, p1.left)) i1 e2).1
         obtain ⟨i3, e4, _⟩ := phaseT_inv i2 e3
         obtain ⟨c1, c2⟩ := costT_spec i3 e4
         congr 2
         apply List.map_congr_left
         intro i hi
         exact dualS_opt (c1.2 _ (by have := List.mem_range.1 hi; omega))
theorem solveS_eq (A : List (List Int)) (B : List Int) (C : List (Int × Int)) : solveS A B C = solveG boundS A B C := by
 unfold solveS solveG
 split
 ·next ok =>
  rcases rawS_eq ok with h | ⟨h1, r, h2, h3⟩
  ·rw [h]; cases rawT A B C <;> rfl
  ·rw [h1, h2]; simp only; rw [h3]; rfl
 ·rfl
theorem solve_both {A : List (List Int)} {B : List Int} {C : List (Int × Int)} (hn : okLP A B C = true → ∀ j, j < C.length → niceC A C j) : solveG boundI A B C = solveS A B C := by rw [solveS_eq]; exact solve_eq hn
theorem raw_val {A : List (List Int)} {B : List Int} {C : List (Int × Int)} (ok : okLP A B C = true) {r : LpR} (h : rawT A B C = some r) (hs : r.status = 1) :
 r.Y.length = B.length ∧ valR r.value = true ∧ (∀ k, k < r.Y.length → valR (r.Y[k]?.getD (0, 0)) = true) := by
 obtain ⟨h1, h2, h3, h4, h5, h6⟩ := okLP_parts ok
 unfold rawT at h
 rw [h3] at h
 cases e1 : phaseT (costs1 C.length A.length) 1000 (startT A B C.length) with
 | none => rw [e1] at h; cases h
 | some p1 =>
   rw [e1] at h
   simp only [Option.bind_some] at h
   split at h
   ·rw [Option.map_eq_some_iff] at h
    obtain ⟨Y, _, rfl⟩ := h
    cases hs
   ·cases e2 : driveN C.length (p1.t, p1.left) A.length with
    | none => rw [e2] at h; cases h
    | some s =>
      rw [e2] at h
      simp only [Option.bind_some] at h
      rw [Option.map_eq_some_iff] at h
      obtain ⟨p2, e3, h⟩ := h
      split at h
      ·subst h; cases hs
      ·have i1 := (phaseT_inv (start_inv ok) e1).1
       have i2 := (driveN_inv (s := (p1.t, p1.left)) i1 e2).1
       obtain ⟨i3, e4, _⟩ := phaseT_inv i2 e3
       obtain ⟨c1, c2⟩ := costT_spec i3 e4
       subst h
       refine ⟨by simp [h3], ?_, fun k hk => ?_⟩
       ·simp only
        rw [valR_negR]
        exact c1.2 _ (by omega)
       ·simp only [List.length_map, List.length_range] at hk
        simp only
        rw [List.getElem?_map, List.getElem?_range hk, Option.map_some, Option.getD_some]
        have hv := c1.2 (C.length + k) (by omega)
        unfold dualO sgnR
        split
        ·rw [valR_negR, valR_negR]; exact hv
        ·rw [valR_negR]; exact hv
theorem solveG_val {bound : List (List Int) → List (Int × Int) → List (Int × Int) → Nat → Bool} {A : List (List Int)} {B : List Int} {C : List (Int × Int)} (h : (solveG bound A B C).status = 1) :
 okLP A B C = true ∧ rawT A B C = some (solveG bound A B C) ∧ checkG bound A B C (solveG bound A B C) = true ∧ (solveG bound A B C).Y.length = B.length ∧ valR (solveG bound A B C).value = true ∧ ∀ k, k < (solveG bound A B C).Y.length → valR ((solveG bound A B C).Y[k]?.getD (0, 0)) = true := by
 cases ok : okLP A B C with
 | false => unfold solveG at h; rw [if_neg (by rw [ok]; simp)] at h; cases h
 | true =>
   cases hr : rawT A B C with
   | none =>
     have e : solveG bound A B C = lpZero 4 := by unfold solveG; rw [if_pos ok, hr]
     rw [e] at h; cases h
   | some r =>
     have e : solveG bound A B C = if checkG bound A B C r = true then r else lpZero 4 := by unfold solveG; rw [if_pos ok, hr]
     by_cases hc : checkG bound A B C r = true
     ·rw [if_pos hc] at e
      rw [e] at h ⊢
      have := raw_val ok hr h
      exact ⟨rfl, rfl, hc, this⟩
     ·rw [if_neg hc] at e
      rw [e] at h
      cases h
end Go.Proofs.YthjjfkeacobikaaGreat
