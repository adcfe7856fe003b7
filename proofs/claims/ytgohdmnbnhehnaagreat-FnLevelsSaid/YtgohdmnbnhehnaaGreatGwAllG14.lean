import Derived.Test.YtgohdmnbnhehnaaGreatGwAllG11
import Derived.Test.YtgohdmnbnhehnaaGreatGwAllG13
import Derived.Test.YtgohdmnbnhehnaaGreatGwAllG1
namespace Go.Proofs.YtgohdmnbnhehnaaGreat
set_option linter.unusedVariables false
open Go.RowKit
abbrev RR : Type := Int × Int
def geR (x y : RR) : Bool := !decide (cmpR x y < 0)
theorem geR_val {x y : RR} (hx : valR x = true) (hy : valR y = true) : geR x y = true ↔ val y ≤ val x := by
 rw [← val_le hx hy]
 unfold geR
 simp
theorem geR_total {x y : RR} (hx : valR x = true) (hy : valR y = true) : geR x y = true ∨ geR y x = true := by
 rw [geR_val hx hy, geR_val hy hx]
 rcases Rat.le_total (a := val y) (b := val x) with h | h
 ·exact .inl h
 ·exact .inr h
theorem geR_trans {x y z : RR} (hx : valR x = true) (hy : valR y = true) (hz : valR z = true) (h : geR x y = true) (k : geR y z = true) : geR x z = true := by
 rw [geR_val hx hy] at h
 rw [geR_val hy hz] at k
 rw [geR_val hx hz]
 exact Rat.le_trans k h
theorem geR_anti {x y : RR} (hx : valR x = true) (hy : valR y = true) (h : geR x y = true) (k : geR y x = true) : x = y := by
 rw [geR_val hx hy] at h
 rw [geR_val hy hx] at k
 exact val_inj hx hy (Rat.le_antisymm k h)
def posX (x : RR) (l : List RR) : Nat → Nat
 | 0 => 0
 | m + 1 => if cmpR (l[m]?.getD (0, 0)) x < 0 then posX x l m else m + 1
def insX (x : RR) (l : List RR) : List RR := l.take (posX x l l.length) ++ x :: l.drop (posX x l l.length)
def srtT (l : List RR) : Nat → List RR
 | 0 => []
 | k + 1 => insX (l[k]?.getD (0, 0)) (srtT l k)
def srtX (l : List RR) : List RR := srtT l l.length
theorem posX_le (x : RR) (l : List RR) : ∀ m, posX x l m ≤ m
 | 0 => Nat.le_refl _
 | m + 1 => by
   unfold posX
   split
   ·have := posX_le x l m; omega
   ·omega
theorem posX_stop {x : RR} {l : List RR} {m : Nat} (h : ¬ cmpR (l[m]?.getD (0, 0)) x < 0) : posX x l (m + 1) = m + 1 := by rw [posX, if_neg h]
theorem posX_go {x : RR} {l : List RR} {m : Nat} (h : cmpR (l[m]?.getD (0, 0)) x < 0) : posX x l (m + 1) = posX x l m := by rw [posX, if_pos h]
theorem posX_above {x : RR} {l : List RR} : ∀ {m i : Nat}, posX x l m ≤ i → i < m → cmpR (l[i]?.getD (0, 0)) x < 0
 | m + 1, i, h, hi => by
   by_cases hc : cmpR (l[m]?.getD (0, 0)) x < 0
   ·rw [posX_go hc] at h
    by_cases him : i = m
    ·rw [him]; exact hc
    ·exact posX_above h (by omega)
   ·rw [posX_stop hc] at h; omega
theorem posX_top {x : RR} {l : List RR} : ∀ {m : Nat}, 0 < posX x l m → ¬ cmpR (l[posX x l m - 1]?.getD (0, 0)) x < 0
 | 0, h => by simp [posX] at h
 | m + 1, h => by
   by_cases hc : cmpR (l[m]?.getD (0, 0)) x < 0
   ·rw [posX_go hc] at h ⊢; exact posX_top h
   ·rw [posX_stop hc, Nat.add_sub_cancel]; exact hc
theorem insX_len (x : RR) (l : List RR) : (insX x l).length = l.length + 1 := by
 have := posX_le x l l.length
 unfold insX
 simp only [List.length_append, List.length_cons, List.length_take, List.length_drop]
 omega
theorem srtT_len (l : List RR) : ∀ k, (srtT l k).length = k
 | 0 => rfl
 | k + 1 => by rw [srtT, insX_len, srtT_len l k]
theorem insX_perm (x : RR) (l : List RR) : (insX x l).Perm (l ++ [x]) := by
 unfold insX
 refine List.perm_middle.trans ?_
 rw [List.take_append_drop]
 exact (List.perm_append_singleton x l).symm
theorem take_snocY {l : List RR} {k : Nat} (h : k < l.length) : l.take (k + 1) = l.take k ++ [l[k]?.getD (0, 0)] := by
 rw [List.take_succ_eq_append_getElem h]; simp [h]
theorem srtT_perm (l : List RR) : ∀ k, k ≤ l.length → (srtT l k).Perm (l.take k)
 | 0, _ => by simp [srtT]
 | k + 1, h => by
   rw [srtT, take_snocY (by omega)]
   exact (insX_perm _ _).trans ((srtT_perm l k (by omega)).append_right _)
theorem srtX_perm (l : List RR) : (srtX l).Perm l := by
 have := srtT_perm l l.length (Nat.le_refl _)
 rwa [List.take_length] at this
theorem insX_sorted {x : RR} {l : List RR} (hx : valR x = true) (hl : ∀ y ∈ l, valR y = true) (h : l.Pairwise fun a b => geR a b = true) : (insX x l).Pairwise fun a b => geR a b = true := by
 obtain ⟨p, hp⟩ : ∃ p, p = posX x l l.length := ⟨_, rfl⟩
 have hle := posX_le x l l.length
 have hsp : l = l.take p ++ l.drop p := (List.take_append_drop p l).symm
 have h2 := h
 rw [hsp, List.pairwise_append] at h2
 obtain ⟨ht, hd, htd⟩ := h2
 have hxd : ∀ b ∈ l.drop p, geR x b = true := by
  intro b hb
  obtain ⟨i, hi, rfl⟩ := List.mem_drop_iff_getElem.1 hb
  have hc := posX_above (x := x) (l := l) (m := l.length) (i := p + i) (by omega) (by omega)
  rw [List.getElem?_eq_getElem (by omega), Option.getD_some] at hc
  have hv := hl _ (List.getElem_mem (show p + i < l.length by omega))
  rcases geR_total hx hv with h1 | h1
  ·exact h1
  ·unfold geR at h1
   rw [decide_eq_true hc] at h1
   cases h1
 have htx : ∀ a ∈ l.take p, geR a x = true := by
  intro a ha
  obtain ⟨i, hi, rfl⟩ := List.mem_take_iff_getElem.1 ha
  have hip : i < p := by omega
  have hpl : p - 1 < l.length := by omega
  have hc := posX_top (x := x) (l := l) (m := l.length) (by omega)
  rw [← hp, List.getElem?_eq_getElem hpl, Option.getD_some] at hc
  have htop : geR l[p - 1] x = true := by unfold geR; rw [decide_eq_false hc]; rfl
  by_cases hil : i = p - 1
  ·subst hil; exact htop
  ·have := List.pairwise_iff_getElem.1 h i (p - 1) (by omega) hpl (by omega)
   exact geR_trans (hl _ (List.getElem_mem _)) (hl _ (List.getElem_mem _)) hx this htop
 unfold insX
 rw [← hp, List.pairwise_append]
 refine ⟨ht, List.pairwise_cons.2 ⟨hxd, hd⟩, fun a ha b hb => ?_⟩
 rcases List.mem_cons.1 hb with rfl | hb
 ·exact htx a ha
 ·exact htd a ha b hb
theorem srtT_val {l : List RR} (hl : ∀ y ∈ l, valR y = true) {k : Nat} (hk : k ≤ l.length) : ∀ y ∈ srtT l k, valR y = true := fun y hy =>
 hl y (List.mem_of_mem_take ((srtT_perm l k hk).mem_iff.1 hy))
theorem srtT_sorted {l : List RR} (hl : ∀ y ∈ l, valR y = true) : ∀ k, k ≤ l.length → (srtT l k).Pairwise fun a b => geR a b = true
 | 0, _ => List.Pairwise.nil
 | k + 1, h => by
   rw [srtT]
   refine insX_sorted ?_ (srtT_val hl (by omega)) (srtT_sorted hl k (by omega))
   rw [List.getElem?_eq_getElem (by omega), Option.getD_some]
   exact hl _ (List.getElem_mem _)
theorem srtX_only {l m : List RR} (hl : ∀ y ∈ l, valR y = true) (hp : m.Perm l) (hs : m.Pairwise fun a b => geR a b = true) : m = srtX l := by
 refine List.Perm.eq_of_pairwise (le := fun a b => geR a b = true) (fun a b ha hb h1 h2 => geR_anti (hl a (hp.mem_iff.1 ha)) (hl b ((srtX_perm l).mem_iff.1 hb)) h1 h2) hs (srtT_sorted hl l.length (Nat.le_refl _)) (hp.trans (srtX_perm l).symm)
def cmpT (l : List RR) : Nat → List RR
 | 0 => []
 | k + 1 => if 0 < k ∧ l[k]?.getD (0, 0) = l[k - 1]?.getD (0, 0) then cmpT l k else cmpT l k ++ [l[k]?.getD (0, 0)]
theorem cmpT_skip {l : List RR} {k : Nat} (h : 0 < k) (e : l[k]?.getD (0, 0) = l[k - 1]?.getD (0, 0)) : cmpT l (k + 1) = cmpT l k := by rw [cmpT, if_pos ⟨h, e⟩]
theorem cmpT_take {l : List RR} {k : Nat} (h : ¬ (0 < k ∧ l[k]?.getD (0, 0) = l[k - 1]?.getD (0, 0))) : cmpT l (k + 1) = cmpT l k ++ [l[k]?.getD (0, 0)] := by rw [cmpT, if_neg h]
theorem cmpT_len (l : List RR) : ∀ k, (cmpT l k).length ≤ k
 | 0 => Nat.le_refl _
 | k + 1 => by
   have := cmpT_len l k
   rw [cmpT]
   split
   ·omega
   ·simp; omega
structure Cmpd (l M : List RR) (i j : Nat) : Prop where
 len : M.length = l.length
 lt : i < j
 pos : 0 < i
 jl : j ≤ l.length
 lo : M.take i = cmpT l j
 hi : ∀ k, i ≤ k → M[k]?.getD (0, 0) = l[k]?.getD (0, 0)
theorem Cmpd.start {l : List RR} {k : Nat} (hk : 0 < k) (hl : k < l.length) (ht : cmpT l k = l.take k) (he : l[k]?.getD (0, 0) = l[k - 1]?.getD (0, 0)) : Cmpd l l k (k + 1) :=
 ⟨rfl, by omega, hk, by omega, by rw [cmpT_skip hk he, ht], fun _ _ => rfl⟩
theorem Cmpd.drop {l M : List RR} {i j : Nat} (h : Cmpd l M i j) (hj : j < l.length) (he : l[j]?.getD (0, 0) = l[j - 1]?.getD (0, 0)) : Cmpd l M i (j + 1) :=
 ⟨h.len, by have := h.lt; omega, h.pos, by omega, by rw [cmpT_skip (by have := h.lt; have := h.pos; omega) he, h.lo], h.hi⟩
theorem Cmpd.keep {l M : List RR} {i j : Nat} (h : Cmpd l M i j) (hj : j < l.length) (he : ¬ l[j]?.getD (0, 0) = l[j - 1]?.getD (0, 0)) : Cmpd l (M.set i (l[j]?.getD (0, 0))) (i + 1) (j + 1) := by
 have hi : i < M.length := by have := h.lt; have := h.len; omega
 refine ⟨by rw [List.length_set]; exact h.len, by have := h.lt; omega, by omega, by omega, ?_, fun k hk => ?_⟩
 ·rw [cmpT_take (fun h' => he h'.2), ← h.lo, List.take_succ_eq_append_getElem (by rw [List.length_set]; exact hi), List.take_set_of_le (Nat.le_refl _), List.getElem_set_self]
 ·rw [List.getElem?_set_ne (by omega)]
  exact h.hi k (by omega)
theorem cmpT_step {l : List RR} {k : Nat} (hl : k < l.length) (ht : cmpT l k = l.take k) (he : k = 0 ∨ ¬ l[k]?.getD (0, 0) = l[k - 1]?.getD (0, 0)) : cmpT l (k + 1) = l.take (k + 1) := by
 rw [cmpT_take (fun h' => by rcases he with h0 | h0; · omega
                             ·exact h0 h'.2), ht, take_snocY hl]
def levP (l : List RR) (e : RR) : Nat → List Int
 | 0 => []
 | k + 1 => if cmpR (l[k]?.getD (0, 0)) e < 0 then levP l e k else levP l e k ++ [((k + 1 : Nat) : Int)]
theorem levP_skip {l : List RR} {e : RR} {k : Nat} (h : cmpR (l[k]?.getD (0, 0)) e < 0) : levP l e (k + 1) = levP l e k := by rw [levP, if_pos h]
theorem levP_take {l : List RR} {e : RR} {k : Nat} (h : ¬ cmpR (l[k]?.getD (0, 0)) e < 0) : levP l e (k + 1) = levP l e k ++ [((k + 1 : Nat) : Int)] := by rw [levP, if_neg h]
theorem levP_len (l : List RR) (e : RR) : ∀ k, (levP l e k).length ≤ k
 | 0 => Nat.le_refl _
 | k + 1 => by
   have := levP_len l e k
   rw [levP]
   split
   ·omega
   ·simp; omega
def levT (l : List RR) (k : Nat) : List (List Int) := (cmpT (srtX l) k).map fun e => levP l e l.length
def levL (l : List RR) : List (List Int) := levT l l.length
theorem levT_skip {l : List RR} {k : Nat} (h : 0 < k) (e : (srtX l)[k]?.getD (0, 0) = (srtX l)[k - 1]?.getD (0, 0)) : levT l (k + 1) = levT l k := by unfold levT; rw [cmpT_skip h e]
theorem levT_take {l : List RR} {k : Nat} (h : ¬ (0 < k ∧ (srtX l)[k]?.getD (0, 0) = (srtX l)[k - 1]?.getD (0, 0))) : levT l (k + 1) = levT l k ++ [levP l ((srtX l)[k]?.getD (0, 0)) l.length] := by unfold levT; rw [cmpT_take h, List.map_append]; rfl
theorem levT_len (l : List RR) (k : Nat) : (levT l k).length ≤ k := by unfold levT; rw [List.length_map]; exact cmpT_len _ _
theorem srtX_len (l : List RR) : (srtX l).length = l.length := srtT_len l _
def levS (p : Int) (V : List Int) (X : List RR) : List (List Int) := levL ((allX p V X).getD [])
theorem levS_none {p : Int} {V : List Int} {X : List RR} (h : allX p V X = none) : levS p V X = [] := by unfold levS; rw [h]; rfl
theorem levS_some {p : Int} {V : List Int} {X : List RR} {l : List RR} (h : allX p V X = some l) : levS p V X = levL l := by unfold levS; rw [h]; rfl
theorem excS_val {V : List Int} {X : List RR} {s : Nat} {x : RR} (h : excS V X s = some x) : valR x = true := by
 unfold excS at h
 cases hs : shareP X s with
 | none => rw [hs] at h; cases h
 | some r =>
   rw [hs] at h
   change excR _ r = some x at h
   unfold excR at h
   split at h
   ·next h1 =>
    simp only [Option.some.injEq] at h
    rw [← h]
    unfold subR at h1 ⊢
    split
    ·next h2 => rw [if_pos h2] at h1; exact ratOf_val h1
    ·next h2 => rw [if_neg h2] at h1; cases h1
   ·cases h
theorem runT_mem {f : Nat → Option RR} {m : Nat} {r : List RR} (h : runT f m = some r) {P : RR → Prop} (hf : ∀ i x, f i = some x → P x) : ∀ x ∈ r, P x := by
 intro x hx
 obtain ⟨i, hi, rfl⟩ := List.mem_iff_getElem.1 hx
 have hl := runT_len h
 have := runT_at h i (by omega)
 rw [List.getElem?_eq_getElem hi, Option.getD_some] at this
 exact hf i _ this
theorem allX_val {p : Int} {V : List Int} {X : List RR} {l : List RR} (h : allX p V X = some l) : ∀ y ∈ l, valR y = true := by
 have hp := (allX_len h).1
 rw [allX_ok hp] at h
 exact runT_mem h fun i x hx => excS_val hx
set_option linter.unusedSimpArgs false
set_option maxRecDepth 100000
def AsksR (P : Program) (w : World) (fid : FuncId) (ca : Array Value) (p : Int × Int → Bool) : Prop :=
 ∀ x y (w1 : World), Ext w w1 → Calls P fid (#[ratV x y] ++ ca) w1 fun e w2 => e = .returned (.bool (p (x, y))) ∧ Ext w1 w2
set_option maxHeartbeats 1000000 in
theorem indexFunc_rats {w : World} {a : Option Addr} {n cap : Nat} {l : List (Int × Int)} {fid : FuncId} {ca : Array Value} {p : Int × Int → Bool} (h : Rats w a n cap l) (hg : IsGo Tryz.prog fid) (hf : AsksR Tryz.prog w fid ca p) :
 Calls Tryz.prog 246 #[.slice a n cap, .func (.func fid) #[] ca] w fun e w' => e = .returned (.int .i64 (indexF p l)) ∧ Ext w w' := by
 have hn := h.hcap
 have hm := h.hmax
 have HL := Lib.hid h.hlen
 have HI := Lib.hid h
 have HF0 := Lib.hid hf
 clear h hf
 have hcf : ∀ (args : Array Value) (w : World), (callFunc fid args).run Tryz.prog w = .ok (.enter fid args) w := hg
 go_enter Tryz.func246, Tryz.ntmps246
 go_wp2_with fail
 go_loopg [8] n (fun gk ii wr => ∃ k : Nat, Hid (gk + k = n) ∧ ii = .int .i64 (k : Int) ∧ Hid ((l.take k).all (fun x => !p x) = true) ∧ Hid (Ext w wr))
 case atStart => exact ⟨0, Lib.hid (by omega), rfl, Lib.hid rfl, Lib.hid (Ext.refl _)⟩
 case round =>
  obtain ⟨g1, h_g1⟩ : ∃ x, x = gk := ⟨_, rfl⟩
  subst h_g1
  obtain ⟨wr1, h_wr1⟩ : ∃ x, x = wr := ⟨_, rfl⟩
  subst h_wr1
  obtain ⟨k, HK, rfl, HA, HX⟩ := hrel
  by_cases hlt : k < n
  ·obtain ⟨b, off, x, y, rfl, hxy, hc0, hc1⟩ := (HI.out.ext HX.out).at hlt
   have HF := Lib.hid (HF0.out x y wr1 HX.out)
   cases hb : p (x, y)
   all_goals
    rw [hb] at HF
   ·have HT := Lib.hid (show (l.take (k + 1)).all (fun x => !p x) = true by
     rw [List.take_succ_eq_append_getElem (by rw [HL.out]; exact hlt), List.all_append, HA.out]
     have : l[k]'(by rw [HL.out]; exact hlt) = (x, y) := by rw [List.getElem?_eq_getElem (by rw [HL.out]; exact hlt)] at hxy; simpa using hxy
     rw [this]; simp [hb])
    clear hxy hb
    go_wp2_with fail
    refine HF.out.mono ?_
    rintro e w2 ⟨rfl, hx2⟩
    go_wp2_with fail
    go_roundg (g1 - 1)
    case measure => have := HK.out; omega
    case rel => exact ⟨k + 1, Lib.hid (by have := HK.out; omega), by go_num, HT, Lib.hid (HX.out.trans hx2)⟩
   ·have HB := Lib.hid (show indexF p l = k from indexF_at (d := (0, 0)) (by rw [HL.out]; exact hlt) HA.out (by rw [hxy]; exact hb))
    clear hxy hb
    go_wp2_with fail
    refine HF.out.mono ?_
    rintro e w2 ⟨rfl, hx2⟩
    go_wp2_with fail
    go_ret
    exact ⟨ret_int HB.out.symm, HX.out.trans hx2⟩
  ·have HT := Lib.hid (show indexF p l = -1 by
    have h2 := HA.out
    rw [List.take_of_length_le (by rw [HL.out]; have := HK.out; omega)] at h2
    exact indexF_none h2)
   go_wp2_with fail
   go_ret
   exact ⟨ret_int HT.out.symm, HX.out⟩
set_option maxHeartbeats 400000 in
theorem containsFunc_rats {w : World} {a : Option Addr} {n cap : Nat} {l : List (Int × Int)} {fid : FuncId} {ca : Array Value} {p : Int × Int → Bool} (h : Rats w a n cap l) (hg : IsGo Tryz.prog fid) (hf : AsksR Tryz.prog w fid ca p) :
 Calls Tryz.prog 222 #[.slice a n cap, .func (.func fid) #[] ca] w fun e w' => e = .returned (.bool (l.any p)) ∧ Ext w w' := by
 have HC := Lib.hid (indexFunc_rats h hg hf)
 clear h hf
 go_enter Tryz.func222, Tryz.ntmps222
 go_wp2_with fail
 refine HC.out.mono ?_
 rintro e w2 ⟨rfl, hx2⟩
 go_wp2
 all_goals go_ret; refine ⟨ret_bool ?_, hx2⟩; rw [← indexF_any]
theorem i_AllValid1 (x y : Int) (w : World) : Calls Tryz.prog 223 #[ratV x y] w fun e w' => e = .returned (.bool (!valR (x, y))) ∧ Ext w w' := by
 have HX := Lib.hid (Ext.alloc w (.cells #[.int .i64 x, .int .i64 y] 85))
 go_enter Tryz.func223, Tryz.ntmps223
 go_wp2_with fail
 refine (i_IsValidRat x y _).mono ?_
 rintro e w1 ⟨rfl, hx⟩
 have X1 := Lib.hid (HX.out.trans hx)
 clear hx
 go_wp2_with fail
 go_ret
 exact ⟨rfl, X1.out⟩
theorem go_AllValid1 : IsGo Tryz.prog 223 := isGo Tryz.func223 (by kernel_rfl) (by kernel_rfl)
theorem i_AllValid {w : World} {a : Option Addr} {n cap : Nat} {l : List (Int × Int)} (h : Rats w a n cap l) :
 Calls Tryz.prog 186 #[.slice a n cap] w fun e w' => e = .returned (.bool (allV l)) ∧ Ext w w' := by
 have HC := Lib.hid (containsFunc_rats h go_AllValid1 (ca := #[]) (p := fun r => !valR r) (fun x y w1 _ => i_AllValid1 x y w1))
 have HE := Lib.hid (show (!l.any (fun r => !valR r)) = allV l by unfold allV; rw [List.not_any_eq_all_not]; simp)
 clear h
 go_enter Tryz.func186, Tryz.ntmps186
 go_wp2_with fail
 refine HC.out.mono ?_
 rintro e w1 ⟨rfl, hx⟩
 have X1 := Lib.hid hx
 clear hx
 go_wp2_with fail
 go_ret
 exact ⟨ret_bool HE.out, X1.out⟩
theorem i_notNegative1 (x y : Int) (w : World) : Calls Tryz.prog 230 #[ratV x y] w fun e w' => e = .returned (.bool (!(valR (x, y) && decide (0 ≤ x)))) ∧ Ext w w' := by
 have HX := Lib.hid (Ext.alloc w (.cells #[.int .i64 x, .int .i64 y] 85))
 have HV := Lib.hid (fun w => i_IsValidRat x y w)
 cases hv : valR (x, y)
 ·rw [hv] at HV
  clear hv
  go_enter Tryz.func230, Tryz.ntmps230
  go_wp2_with fail
  refine (HV.out _).mono ?_
  rintro e w1 ⟨rfl, hx⟩
  have X1 := Lib.hid (HX.out.trans hx)
  clear hx
  go_wp2_with fail
  go_ret
  exact ⟨rfl, X1.out⟩
 ·rw [hv] at HV
  clear hv
  cases hx0 : decide (0 ≤ x)
  ·have hlt : decide (x < 0) = true := by simp at hx0 ⊢; omega
   clear hx0
   go_enter Tryz.func230, Tryz.ntmps230
   go_wp2_with fail
   refine (HV.out _).mono ?_
   rintro e w1 ⟨rfl, hx⟩
   have hc : w1.cell? ⟨w.heap.size, 0, none⟩ = some (.int .i64 x) := hx.cellSome (by simp)
   have X1 := Lib.hid (HX.out.trans hx)
   clear hx
   go_wp2_with fail
   go_ret
   exact ⟨rfl, X1.out⟩
  ·have hlt : decide (x < 0) = false := by simp at hx0 ⊢; omega
   clear hx0
   go_enter Tryz.func230, Tryz.ntmps230
   go_wp2_with fail
   refine (HV.out _).mono ?_
   rintro e w1 ⟨rfl, hx⟩
   have hc : w1.cell? ⟨w.heap.size, 0, none⟩ = some (.int .i64 x) := hx.cellSome (by simp)
   have X1 := Lib.hid (HX.out.trans hx)
   clear hx
   go_wp2_with fail
   go_ret
   exact ⟨rfl, X1.out⟩
theorem go_notNegative1 : IsGo Tryz.prog 230 := isGo Tryz.func230 (by kernel_rfl) (by kernel_rfl)
theorem i_notNegative {w : World} {a : Option Addr} {n cap : Nat} {l : List (Int × Int)} (h : Rats w a n cap l) (m : Nat) :
 Calls Tryz.prog 196 #[.slice a n cap, .int .i64 (m : Int)] w fun e w' => e = .returned (.bool (decide (l.length = m) && posV l)) ∧ Ext w w' := by
 have hcap := h.hcap
 have hmax := h.hmax
 have HL := Lib.hid h.hlen
 have HC := Lib.hid (containsFunc_rats h go_notNegative1 (ca := #[]) (p := fun r => !(valR r && decide (0 ≤ r.1))) (fun x y w1 _ => i_notNegative1 x y w1))
 have HE := Lib.hid (show (!l.any (fun r => !(valR r && decide (0 ≤ r.1)))) = posV l by unfold posV; rw [List.not_any_eq_all_not]; simp)
 clear h
 cases hn : ((n : Int) == (m : Int))
 ·have HN := Lib.hid (show decide (l.length = m) = false by rw [HL.out]; simp at hn ⊢; omega)
  go_enter Tryz.func196, Tryz.ntmps196
  go_wp2_with fail
  go_ret
  exact ⟨ret_bool (by rw [HN.out]; rfl), Ext.refl _⟩
 ·have HN := Lib.hid (show decide (l.length = m) = true by rw [HL.out]; simp at hn ⊢; omega)
  go_enter Tryz.func196, Tryz.ntmps196
  go_wp2_with fail
  refine HC.out.mono ?_
  rintro e w1 ⟨rfl, hx⟩
  have X1 := Lib.hid hx
  clear hx
  go_wp2_with fail
  go_ret
  exact ⟨ret_bool (by rw [HN.out, ← HE.out]; simp), X1.out⟩
end Go.Proofs.YtgohdmnbnhehnaaGreat
