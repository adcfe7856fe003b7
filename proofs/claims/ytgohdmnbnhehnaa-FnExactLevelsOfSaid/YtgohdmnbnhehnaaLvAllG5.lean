import Derived.Test.YtgohdmnbnhehnaaLvAllG4
import Derived.Test.YtgohdmnbnhehnaaLvAllG0
import Derived.Test.YtgohdmnbnhehnaaLvAllG2
import Derived.Test.YtgohdmnbnhehnaaLvAllG3
namespace Go.Proofs.Ytgohdmnbnhehnaa
set_option linter.unusedVariables false
set_option linter.unusedSimpArgs false
set_option maxRecDepth 100000
open Go.RowKit
def grandV (p : Int) (V : List Int) : Int := if gameOk p V = true then V[V.length - 1]?.getD 0 else 0
theorem grandV_no {p : Int} {V : List Int} (h : gameOk p V = false) : grandV p V = 0 := by unfold grandV; rw [h]; rfl
theorem grandV_ok {p : Int} {V : List Int} (h : gameOk p V = true) : grandV p V = V[V.length - 1]?.getD 0 := by unfold grandV; rw [if_pos h]
set_option maxHeartbeats 1000000 in
theorem s_GrandValue {w : World} {p : Int} {a : Option Addr} {n cap : Nat} {V : List Int} (h : Ints w a n cap V) :
 Calls Try.prog 75 #[pair p a n cap] w fun e w' => e = .returned (.int .i64 (grandV p V)) ∧ Ext w w' := by
 have hi := h.alloc (.cells #[.int .i64 p, .slice a n cap] 26)
 have HX := Lib.hid (Ext.alloc w (.cells #[.int .i64 p, .slice a n cap] 26))
 have HL := Lib.hid h.hlen
 have HI := Lib.hid hi
 have HV := Lib.hid (s_IsValidGame (p := p) hi)
 clear h hi
 cases hv : gameOk p V
 ·rw [hv] at HV
  have HG := Lib.hid (grandV_no hv)
  clear hv
  go_enter Try.func75, Try.ntmps75
  go_wp2_with fail
  refine HV.out.mono ?_
  rintro e w1 ⟨rfl, hx⟩
  have X1 := Lib.hid (HX.out.trans hx)
  clear hx
  go_wp2_with fail
  go_ret
  exact ⟨ret_int HG.out.symm, X1.out⟩
 ·rw [hv] at HV
  obtain ⟨q, rfl, h1, h5, hlen, _, hbd⟩ := gameOk_len hv
  have hN := cN_le q h5
  obtain ⟨u, rfl⟩ : ∃ u, n = u + 1 := ⟨n - 1, by have := HL.out; omega⟩
  have HG := Lib.hid (show grandV (q : Int) V = V[u]?.getD 0 by rw [grandV_ok hv, HL.out]; rfl)
  have hu32 : u ≤ 31 := by have := HL.out; omega
  clear hv hlen hbd hN
  go_enter Try.func75, Try.ntmps75
  go_wp2_with fail
  refine HV.out.mono ?_
  rintro e w1 ⟨rfl, hx⟩
  have c1 : w1.cell? ⟨w.heap.size, 1, none⟩ = some (.slice a (u + 1) cap) := hx.cellSome (by simp)
  obtain ⟨b, off, rfl, hc⟩ := (HI.out.ext hx).at (show u < u + 1 by omega)
  have hlen1 : ((u + 1 : Nat) : Int) - 1 = (u : Int) := by omega
  have X1 := Lib.hid (HX.out.trans hx)
  clear hx
  go_wp2_with fail
  go_ret
  exact ⟨ret_int HG.out.symm, X1.out⟩
def gI (a b : Int) : Int := (Int.gcd a b : Int)
theorem gI_step (a b : Int) : gI b (a.tmod b) = gI a b := by
 unfold gI Int.gcd
 rw [Int.natAbs_tmod, Nat.gcd_comm b.natAbs, ← Nat.gcd_rec, Nat.gcd_comm]
theorem gI_zero (a : Int) : gI a 0 = (a.natAbs : Int) := by simp [gI]
theorem gI_negl (a b : Int) : gI (-a) b = gI a b := by simp [gI, Int.gcd]
theorem gI_negr (a b : Int) : gI a (-b) = gI a b := by simp [gI, Int.gcd]
theorem gI_pos (a : Int) {b : Int} (h : b ≠ 0) : 1 ≤ gI a b := by
 unfold gI
 have : 0 < Int.gcd a b := Int.gcd_pos_of_ne_zero_right a h
 omega
theorem gI_le (a : Int) {b : Int} (h : b ≠ 0) : gI a b ≤ b.natAbs := by
 unfold gI Int.gcd
 exact_mod_cast Nat.gcd_le_right _ (by omega)
theorem gI_dvdl (a b : Int) : gI a b ∣ a := Int.gcd_dvd_left ..
theorem gI_dvdr (a b : Int) : gI a b ∣ b := Int.gcd_dvd_right ..
def valR (p : Int × Int) : Bool := inB p.2 1 1000000000 && (inB p.1 (-1000000000) 1000000000 && decide (gI p.1 p.2 = 1))
theorem valR_bd {p : Int × Int} (h : valR p = true) : 1 ≤ p.2 ∧ p.2 ≤ 1000000000 ∧ -1000000000 ≤ p.1 ∧ p.1 ≤ 1000000000 := by
 simp only [valR, inB, Bool.and_eq_true, decide_eq_true_eq] at h
 omega
theorem valR_neg (x y : Int) : valR (-x, y) = valR (x, y) := by
 have h1 : inB (-x) (-1000000000) 1000000000 = inB x (-1000000000) 1000000000 := by
  unfold inB
  have e1 : decide (-1000000000 ≤ -x) = decide (x ≤ 1000000000) := by by_cases h : x ≤ 1000000000 <;> simp [h] <;> omega
  have e2 : decide (-x ≤ 1000000000) = decide (-1000000000 ≤ x) := by by_cases h : -1000000000 ≤ x <;> simp [h] <;> omega
  rw [e1, e2, Bool.and_comm]
 simp only [valR, gI_negl, h1]
def cutR (p : Int × Int) : (Int × Int) × Bool := if valR p = true then (p, true) else ((0, 0), false)
def ratOf (n d : Int) : (Int × Int) × Bool :=
 if d = 0 ∨ inB n (-1000000000000000000) 1000000000000000000 = false ∨ inB d (-1000000000000000000) 1000000000000000000 = false then ((0, 0), false)
 else if d < 0 then cutR (n.tdiv (-gI n d), d.tdiv (-gI n d)) else cutR (n.tdiv (gI n d), d.tdiv (gI n d))
theorem cutR_val {p : Int × Int} (h : (cutR p).2 = true) : valR (cutR p).1 = true := by
 unfold cutR at h ⊢
 split at h
 ·next h1 => rw [if_pos h1]; exact h1
 ·simp at h
theorem ratOf_val {n d : Int} (h : (ratOf n d).2 = true) : valR (ratOf n d).1 = true := by
 unfold ratOf at h ⊢
 split at h
 ·simp at h
 ·next h1 =>
  rw [if_neg h1]
  split at h
  ·next h2 => rw [if_pos h2]; exact cutR_val h
  ·next h2 => rw [if_neg h2]; exact cutR_val h
theorem ratOf_no {n d : Int} (h : (ratOf n d).2 = false) : (ratOf n d).1 = (0, 0) := by
 unfold ratOf cutR at h ⊢
 split at h
 ·next h1 => rw [if_pos h1]
 ·next h1 =>
  rw [if_neg h1]
  split at h
  ·next h2 =>
   rw [if_pos h2]
   split at h
   ·simp at h
   ·next h3 => rw [if_neg h3]
  ·next h2 =>
   rw [if_neg h2]
   split at h
   ·simp at h
   ·next h3 => rw [if_neg h3]
theorem gI_cancel (n d : Int) (hd : 0 < d) : gI (n.tdiv (gI n d)) (d.tdiv (gI n d)) = 1 := by
 have hg := gI_pos n (show d ≠ 0 by omega)
 obtain ⟨k, hk⟩ := gI_dvdl n d
 obtain ⟨m, hm⟩ := gI_dvdr n d
 have h1 : n.tdiv (gI n d) = k := by conv => lhs; arg 1; rw [hk]
                                     exact Int.mul_tdiv_cancel_left _ (by omega)
 have h2 : d.tdiv (gI n d) = m := by conv => lhs; arg 1; rw [hm]
                                     exact Int.mul_tdiv_cancel_left _ (by omega)
 rw [h1, h2]
 have h3 : gI (gI n d * k) (gI n d * m) = gI n d := by rw [← hk, ← hm]
 have h4 : gI (gI n d * k) (gI n d * m) = gI n d * gI k m := by
  show ((Int.gcd _ _ : Nat) : Int) = _
  rw [Int.gcd_mul_left]
  have : ((gI n d).natAbs : Int) = gI n d := by omega
  rw [Int.natCast_mul, this]
  rfl
 rw [h3] at h4
 have h5 : gI n d * 1 = gI n d * gI k m := by omega
 have := Int.eq_of_mul_eq_mul_left (by omega) h5
 omega
theorem tdiv_abs (n g : Int) (hg : 1 ≤ g) : (n.tdiv g).natAbs ≤ n.natAbs := by
 rw [Int.natAbs_tdiv]
 exact Nat.div_le_self _ _
theorem ratOf_ok {n d : Int} (hd : 1 ≤ d) (hd' : d ≤ 1000000000) (h : -1000000000 ≤ n) (h' : n ≤ 1000000000) : (ratOf n d).2 = true := by
 have hg := gI_pos n (show d ≠ 0 by omega)
 have hgl := gI_le n (show d ≠ 0 by omega)
 unfold ratOf
 rw [if_neg (by simp [inB]; omega), if_neg (by omega)]
 unfold cutR
 have h1 := tdiv_abs n (gI n d) hg
 have h2 := tdiv_abs d (gI n d) hg
 have h3 : 1 ≤ d.tdiv (gI n d) := by
  obtain ⟨m, hm⟩ := gI_dvdr n d
  have h2 : d.tdiv (gI n d) = m := by conv => lhs; arg 1; rw [hm]
                                      exact Int.mul_tdiv_cancel_left _ (by omega)
  rw [h2]
  rcases Int.lt_or_le 0 m with h | h
  ·omega
  ·have : gI n d * m ≤ 0 := Int.mul_nonpos_of_nonneg_of_nonpos (by omega) h
   omega
 rw [if_pos]
 simp only [valR, inB, gI_cancel n d (by omega), Bool.and_eq_true, decide_eq_true_eq, and_true]
 omega
def addR (a b : Int × Int) : (Int × Int) × Bool := if (valR a && valR b) = true then ratOf (a.1 * b.2 + b.1 * a.2) (a.2 * b.2) else ((0, 0), false)
def subR (a b : Int × Int) : (Int × Int) × Bool := if (valR a && valR b) = true then ratOf (a.1 * b.2 - b.1 * a.2) (a.2 * b.2) else ((0, 0), false)
def cmpR (a b : Int × Int) : Int := if (valR a && valR b) = true then (if a.1 * b.2 < b.1 * a.2 then -1 else if b.1 * a.2 < a.1 * b.2 then 1 else 0) else 0
theorem subR_add (a b : Int × Int) : addR a (-b.1, b.2) = subR a b := by
 unfold addR subR
 rw [valR_neg, Int.neg_mul, ← Int.sub_eq_add_neg]
theorem mul_bd {x y : Int} (h1 : -1000000000 ≤ x) (h2 : x ≤ 1000000000) (h3 : -1000000000 ≤ y) (h4 : y ≤ 1000000000) : -1000000000000000000 ≤ x * y ∧ x * y ≤ 1000000000000000000 := by
 have hx : x.natAbs ≤ 1000000000 := by omega
 have hy : y.natAbs ≤ 1000000000 := by omega
 have h : (x * y).natAbs ≤ 1000000000 * 1000000000 := by
  rw [Int.natAbs_mul]
  exact Nat.mul_le_mul hx hy
 omega
def SimR (n : Nat) (a b : List Int) : Prop := ∃ u v : Int, u ≠ 0 ∧ v ≠ 0 ∧ ∀ j, j < n → u * a[j]?.getD 0 = v * b[j]?.getD 0
theorem SimR.refl (n : Nat) (a : List Int) : SimR n a a := ⟨1, 1, by omega, by omega, fun _ _ => rfl⟩
theorem SimR.zero {n : Nat} {a b : List Int} (h : SimR n a b) {j : Nat} (hj : j < n) : a[j]?.getD 0 = 0 ↔ b[j]?.getD 0 = 0 := by
 obtain ⟨u, v, hu, hv, h⟩ := h
 have := h j hj
 constructor
 ·intro e; rw [e, Int.mul_zero] at this
  rcases Int.mul_eq_zero.1 this.symm with h | h
  ·exact absurd h hv
  ·exact h
 ·intro e; rw [e, Int.mul_zero] at this
  rcases Int.mul_eq_zero.1 this with h | h
  ·exact absurd h hu
  ·exact h
structure SimM (n : Nat) (M K : List (List Int)) : Prop where
 len : M.length = K.length
 row : ∀ i, i < M.length → SimR n (M[i]?.getD []) (K[i]?.getD [])
structure Mat (w : World) (base : Nat) (a : Option Addr) (N cap : Nat) (vs : List Value) (M : List (List Int)) : Prop where
 own : OwnV w base (.slice a N cap) vs
 rows : RowsI w base vs M
theorem Mat.vlen {w : World} {base : Nat} {a : Option Addr} {N cap : Nat} {vs : List Value} {M : List (List Int)} (h : Mat w base a N cap vs M) : vs.length = N := h.own.len
theorem Mat.len {w : World} {base : Nat} {a : Option Addr} {N cap : Nat} {vs : List Value} {M : List (List Int)} (h : Mat w base a N cap vs M) : M.length = N := by rw [← h.rows.len]; exact h.own.len
theorem Mat.cap {w : World} {base : Nat} {a : Option Addr} {N cap : Nat} {vs : List Value} {M : List (List Int)} (h : Mat w base a N cap vs M) : N ≤ cap ∧ cap ≤ 9223372036854775807 := by
 obtain ⟨a', c', he, h1, h2⟩ := h.own.form
 simp only [Value.slice.injEq] at he
 obtain ⟨_, h3, rfl⟩ := he
 exact ⟨by omega, h2⟩
theorem Mat.keep {w w' : World} {base : Nat} {a : Option Addr} {N cap : Nat} {vs : List Value} {M : List (List Int)} (h : Mat w base a N cap vs M) (h0 : ∀ k, (Value.slice a N cap).ownBlock = some k → w'.heap[k]? = w.heap[k]?)
 (h1 : ∀ i k, i < N → (vs[i]?.getD undef).ownBlock = some k → w'.heap[k]? = w.heap[k]?) : Mat w' base a N cap vs M :=
 ⟨h.own.keep h0, h.rows.keep fun i k hi hk => h1 i k (by rw [← h.len]; exact hi) hk⟩
theorem Mat.ext {w w' : World} {base : Nat} {a : Option Addr} {N cap : Nat} {vs : List Value} {M : List (List Int)} (h : Mat w base a N cap vs M) (hx : Ext w w') : Mat w' base a N cap vs M := ⟨h.own.ext hx, h.rows.ext hx⟩
theorem Mat.intss {w : World} {base : Nat} {a : Option Addr} {N cap : Nat} {vs : List Value} {M : List (List Int)} (h : Mat w base a N cap vs M) : IntSS w a N cap M :=
 OwnSS.intss ⟨vs, h.own, h.rows⟩
theorem Mat.outer {w : World} {base : Nat} {a : Option Addr} {N cap : Nat} {vs : List Value} {M : List (List Int)} (h : Mat w base a N cap vs M) (hN : 0 < N) : ∃ G, a = some ⟨G, 0, none⟩ ∧ base ≤ G ∧ G < w.heap.size ∧ ∀ j, w.frozen? ⟨G, j, none⟩ = false := by
 rcases h.own.2 with ⟨he, h0⟩ | ⟨g, cap', cur, he, hb, hg, _⟩
 ·simp only [Value.slice.injEq] at he
  omega
 ·simp only [Value.slice.injEq] at he
  obtain ⟨rfl, _⟩ := he
  exact ⟨g, rfl, hb, lt_of_block hg, fun j => frozen_of_row w g j cur _ hg⟩
theorem Mat.row {w : World} {base G N cap : Nat} {vs : List Value} {M : List (List Int)} (h : Mat w base (some ⟨G, 0, none⟩) N cap vs M) {i n : Nat} (hi : i < N) (hn : (M[i]?.getD []).length = n) (h1 : 1 ≤ n) :
 ∃ g c, vs[i]?.getD undef = .slice (some ⟨g, 0, none⟩) n c ∧ w.cell? ⟨G, i, none⟩ = some (.slice (some ⟨g, 0, none⟩) n c) ∧ OwnI w base (.slice (some ⟨g, 0, none⟩) n c) (M[i]?.getD []) ∧ g ≠ G ∧ base ≤ g ∧ g < w.heap.size ∧ n ≤ c ∧ c ≤ 9223372036854775807 := by
 have hr := h.rows.row i (by rw [h.len]; exact hi)
 obtain ⟨a', c, he, hc1, hc2⟩ := hr.form
 rw [he] at hr
 rw [hn] at he hr hc1
 obtain ⟨g, rfl, hb, _, hgl⟩ := hr.block (k := 0) (by omega)
 obtain ⟨G', hG, _, hc⟩ := h.own.cell hi
 simp only [Option.some.injEq, Addr.mk.injEq, and_true] at hG
 subst hG
 refine ⟨g, c, he, ?_, hr, fun e => hr.apart h.own g rfl (by subst e; rfl), hb, hgl, hc1, hc2⟩
 rw [hc i hi, ← he]
 have : i < vs.length := by rw [h.vlen]; exact hi
 simp [this]
theorem Mat.put {w0 w : World} {base G N cap : Nat} {vs : List Value} {M : List (List Int)} (h : Mat w0 base (some ⟨G, 0, none⟩) N cap vs M) (hx : Ext w0 w) (hb : base ≤ w0.heap.size) {v : Value} {l : List Int} (ho : OwnI w w0.heap.size v l) {i : Nat} (hi : i < N) :
 Mat (w.setCell ⟨G, i, none⟩ v) base (some ⟨G, 0, none⟩) N cap (vs.set i v) (M.set i l) := by
 have hil : i < M.length := by rw [h.len]; exact hi
 have hvl : i < vs.length := by rw [h.vlen]; exact hi
 have hW := h.ext hx
 obtain ⟨G', hG, hbG, hGl, _⟩ := h.outer (by omega)
 simp only [Option.some.injEq, Addr.mk.injEq, and_true] at hG
 subst hG
 have hother : ∀ k, k ≠ G → (w.setCell ⟨G, i, none⟩ v).heap[k]? = w.heap[k]? := fun k hk => heap_setCell_other _ _ _ _ hk
 refine ⟨?_, ⟨by rw [List.length_set, List.length_set]; exact h.rows.len, fun k hk => ?_, fun a b k hab hb2 hk hk2 => ?_⟩⟩
 ·have ho := hW.own
  unfold OwnV at ho
  rw [hW.vlen] at ho
  have := (World.ownsRow.stored ho i v).1
  unfold OwnV
  rw [List.length_set, hW.vlen]
  exact this
 ·rw [List.length_set] at hk
  by_cases hki : k = i
  ·subst hki
   rw [List.getElem?_set_self hvl, List.getElem?_set_self hil]
   exact (ho.keep fun b hb' => hother b (by have := (ho.lt b hb').1; omega)).mono hb
  ·rw [List.getElem?_set_ne (Ne.symm hki), List.getElem?_set_ne (Ne.symm hki)]
   refine (hW.rows.row k hk).keep fun b hb' => hother b fun e => ?_
   subst e
   exact (hW.rows.row k hk).apart hW.own _ hb' rfl
 ·rw [List.length_set] at hb2
  by_cases hai : a = i
  ·subst hai
   rw [List.getElem?_set_self hvl] at hk
   rw [List.getElem?_set_ne (by omega)] at hk2
   have h1 := (ho.lt k hk).1
   have h2 := ((h.rows.row b hb2).lt k hk2).2
   omega
  ·rw [List.getElem?_set_ne (Ne.symm hai)] at hk
   by_cases hbi : b = i
   ·subst hbi
    rw [List.getElem?_set_self hvl] at hk2
    have h1 := (ho.lt k hk2).1
    have h2 := ((h.rows.row a (by omega)).lt k hk).2
    omega
   ·rw [List.getElem?_set_ne (Ne.symm hbi)] at hk2
    exact h.rows.apart a b k hab hb2 hk hk2
theorem RowsI.grownV {w w' : World} {base base' : Nat} {v : Value} {vs : List Value} {L : List (List Int)} (h : RowsI w base vs L) {us : List Value} (hv : OwnV w base' v us) (hg : w.grownBy w' v.ownBlock) : RowsI w' base vs L :=
 h.keep fun i k hi hk => hg.block k ((h.row i hi).lt k hk).2 fun e => (h.row i hi).apart hv k hk e.symm
theorem IntSS.at' {w : World} {G N cap : Nat} {L : List (List Int)} (h : IntSS w (some ⟨G, 0, none⟩) N cap L) {k : Nat} (hk : k < N) :
 ∃ a m c, w.cell? ⟨G, k, none⟩ = some (.slice a m c) ∧ Ints w a m c (L[k]?.getD []) := by
 obtain ⟨b, off, a, m, c, he, hc, hr⟩ := h.at hk
 simp only [Option.some.injEq, Addr.mk.injEq, and_true] at he
 obtain ⟨rfl, rfl⟩ := he
 rw [Nat.zero_add] at hc
 exact ⟨a, m, c, hc, hr⟩
theorem IntSS.dropIf {w : World} {G N cap : Nat} {L : List (List Int)} (h : IntSS w (some ⟨G, 0, none⟩) N cap L) {d : Nat} (hd : d ≤ N) : IntSS w (if cap = d then some ⟨G, 0, none⟩ else some ⟨G, d, none⟩) (N - d) (cap - d) (L.drop d) := by
 refine ⟨by rw [List.length_drop, h.hlen], by have := h.hcap; omega, by have := h.hmax; omega, fun k hk => ?_⟩
 have hc : ¬ cap = d := by have := h.hcap; omega
 rw [if_neg hc]
 refine ⟨G, d, rfl, fun k hk => ?_⟩
 obtain ⟨a, m, c, h1, h2⟩ := h.at' (k := d + k) (by omega)
 refine ⟨a, m, c, h1, ?_⟩
 rw [List.getElem?_drop]
 exact h2
end Go.Proofs.Ytgohdmnbnhehnaa
