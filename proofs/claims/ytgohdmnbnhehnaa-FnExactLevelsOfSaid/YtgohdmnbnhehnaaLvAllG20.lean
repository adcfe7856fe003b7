import Derived.Test.YtgohdmnbnhehnaaLvAllG19
import Derived.Test.YtgohdmnbnhehnaaLvAllG11
namespace Go.Proofs.Ytgohdmnbnhehnaa
set_option linter.unusedVariables false
set_option linter.unusedSimpArgs false
open Go.RowKit
section
variable {n : Nat} {s : Tb × Nat} {k : Nat} {tt : Tb} {lf : Nat}
end
theorem Rats.take {w : World} {a : Option Addr} {n cap : Nat} {l : List (Int × Int)} (h : Rats w a n cap l) {k : Nat} (hk : k ≤ n) : Rats w a k cap (l.take k) :=
 ⟨by rw [List.length_take, h.hlen]; omega, Nat.le_trans hk h.hcap, h.hmax, fun j hj => by
  obtain ⟨b, off, e, hc⟩ := h.cell j (by omega)
  refine ⟨b, off, e, fun i hi => ?_⟩
  rw [List.getElem?_take_of_lt hi]
  exact hc i (by omega)⟩
section
variable {w W : World} {g : Nat} {s : Int} {vx vy vr : Value} {p q piv : Int}
end
theorem Rats.nilR (w : World) : Rats w none 0 0 [] := ⟨rfl, Nat.le_refl _, by omega, fun k hk => absurd hk (by omega)⟩
structure LrOw (w : World) (base : Nat) (xa : Option Addr) (xn xc : Nat) (ya : Option Addr) (yn yc : Nat) (ra : Option Addr) (rn rc : Nat) (r : LpR) : Prop where
 x : On base w fun W => Rats W xa xn xc r.X
 y : On base w fun W => Rats W ya yn yc r.Y
 ray : On base w fun W => Rats W ra rn rc r.ray
theorem LrOw.here {w : World} {base : Nat} {xa : Option Addr} {xn xc : Nat} {ya : Option Addr} {yn yc : Nat} {ra : Option Addr} {rn rc : Nat} {r : LpR} (h : LrOw w base xa xn xc ya yn yc ra rn rc r) : LrC w xa xn xc ya yn yc ra rn rc r := ⟨h.x.here, h.y.here, h.ray.here⟩
theorem LrOw.ext {w w' : World} {base : Nat} {xa : Option Addr} {xn xc : Nat} {ya : Option Addr} {yn yc : Nat} {ra : Option Addr} {rn rc : Nat} {r : LpR} (h : LrOw w base xa xn xc ya yn yc ra rn rc r) (hx : Ext w w') : LrOw w' base xa xn xc ya yn yc ra rn rc r := ⟨h.x.ext hx, h.y.ext hx, h.ray.ext hx⟩
theorem LrOw.keep {w w' : World} {base : Nat} {xa : Option Addr} {xn xc : Nat} {ya : Option Addr} {yn yc : Nat} {ra : Option Addr} {rn rc : Nat} {r : LpR} (h : LrOw w base xa xn xc ya yn yc ra rn rc r) (hs : w.heap.size ≤ w'.heap.size) (hk : ∀ k, base ≤ k → k < w.heap.size → w'.heap[k]? = w.heap[k]?) : LrOw w' base xa xn xc ya yn yc ra rn rc r :=
 ⟨h.x.keep hs hk, h.y.keep hs hk, h.ray.keep hs hk⟩
theorem LrOw.mono {w : World} {base base' : Nat} {xa : Option Addr} {xn xc : Nat} {ya : Option Addr} {yn yc : Nat} {ra : Option Addr} {rn rc : Nat} {r : LpR} (h : LrOw w base xa xn xc ya yn yc ra rn rc r) (hb : base' ≤ base) : LrOw w base' xa xn xc ya yn yc ra rn rc r := ⟨h.x.mono hb, h.y.mono hb, h.ray.mono hb⟩
theorem LrOw.zero (w : World) (base : Nat) (s : Int) : LrOw w base none 0 0 none 0 0 none 0 0 (lpZero s) := ⟨fun w _ => Rats.nilR w, fun w _ => Rats.nilR w, fun w _ => Rats.nilR w⟩
end Go.Proofs.Ytgohdmnbnhehnaa
namespace Go.Proofs.Ytgohdmnbnhehnaa
set_option linter.unusedVariables false
open Go.RowKit
theorem levP_mem {l : List (Int × Int)} {e : Int × Int} : ∀ {m : Nat}, ∀ x ∈ levP l e m, 1 ≤ x ∧ x ≤ (m : Int)
 | 0, x, h => by simp [levP] at h
 | m + 1, x, h => by
   by_cases hc : cmpR (l[m]?.getD (0, 0)) e < 0
   ·rw [levP_skip hc] at h
    have := levP_mem x h; omega
   ·rw [levP_take hc] at h
    rcases List.mem_append.1 h with h | h
    ·have := levP_mem x h; omega
    ·rw [List.mem_singleton] at h; subst h; omega
theorem allX_small {p : Int} {V : List Int} {X : List (Int × Int)} {l : List (Int × Int)} (h : allX p V X = some l) : l.length ≤ 32 := by
 have h3 := allX_len h
 obtain ⟨q, _, h4, h5, hlen, _, _⟩ := gameOk_len (payP_game h3.1)
 have := cN_le q h5
 omega
theorem levS_bd (p : Int) (V : List Int) (X : List (Int × Int)) : (levS p V X).length ≤ 32 ∧ ∀ r ∈ levS p V X, r.length ≤ 32 ∧ ∀ k : Nat, r[k]?.getD 0 ≤ 9223372036854775807 := by
 cases h : allX p V X with
 | none => rw [levS_none h]; simp
 | some l =>
   have hl := allX_small h
   rw [levS_some h]
   refine ⟨by have := levT_len l l.length; unfold levL; omega, fun r hr => ?_⟩
   unfold levL levT at hr
   obtain ⟨e, _, rfl⟩ := List.mem_map.1 hr
   refine ⟨by have := levP_len l e l.length; omega, fun k => ?_⟩
   by_cases hk : k < (levP l e l.length).length
   ·rw [List.getElem?_eq_getElem hk, Option.getD_some]
    have := levP_mem _ (List.getElem_mem hk); omega
   ·rw [List.getElem?_eq_none (by omega)]; simp
end Go.Proofs.Ytgohdmnbnhehnaa
