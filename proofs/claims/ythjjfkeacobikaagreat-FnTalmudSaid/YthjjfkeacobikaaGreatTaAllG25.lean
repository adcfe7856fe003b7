import Derived.Test.YthjjfkeacobikaaGreatTaAllG24
import Derived.Test.YthjjfkeacobikaaGreatTaAllG23
import Derived.Outline
set_option linter.unusedVariables false
set_option linter.unusedSimpArgs false
namespace Go.Proofs.YthjjfkeacobikaaGreat
set_option maxRecDepth 100000
open Go.RowKit
def noO (x : Option (Int × Int)) : Bool := match x with | none => false | some v => decide (v.1 ≤ 0)
def posO (x : Option (Int × Int)) : Bool := match x with | none => false | some v => decide (0 < v.1)
def negO (x : Option (Int × Int)) : Bool := match x with | none => false | some v => decide (v.1 < 0)
def noF (A : List (List Int)) (Y : List (Int × Int)) (j : Nat) : Bool := noO (dotL Y (wholeL (colL A j)))
theorem proofNo_eq (A : List (List Int)) (B : List Int) (n : Nat) (Y : List (Int × Int)) : proofNo A B n Y = ((List.range n).all (noF A Y) && posO (dotL Y (wholeL B))) := rfl
theorem rayB_eq (A : List (List Int)) (B : List Int) (C : List (Int × Int)) (ray : List (Int × Int)) : rayB A B C ray = ((decide (ray.length = C.length) && posV ray) && (givesB A ray (List.replicate B.length 0) && negO (dotL C ray))) := by
 unfold rayB; rw [Bool.and_assoc]; rfl
section
variable {w : World} {a : Option Addr} {na ca : Nat} {b : Option Addr} {nb cb : Nat} {c : Option Addr} {nc cc : Nat} {A : List (List Int)} {B : List Int} {C : List (Int × Int)}
 {xa : Option Addr} {xn xc : Nat} {ya : Option Addr} {yn yc : Nat} {ra : Option Addr} {rn rc : Nat} {r : LpR}
end
end Go.Proofs.YthjjfkeacobikaaGreat
namespace Go.Proofs.YthjjfkeacobikaaGreat
set_option maxRecDepth 100000
open Go.RowKit
theorem map_snoc {α β : Type} (f : α → β) {l : List α} {k : Nat} {d : α} (h : k < l.length) : (l.take k).map f ++ [f (l[k]?.getD d)] = (l.take (k + 1)).map f := by
 rw [List.take_succ_eq_append_getElem h, List.map_append, List.getElem?_eq_getElem h]; rfl
theorem rangeMap_snoc {β : Type} (f : Nat → β) (k : Nat) : (List.range k).map f ++ [f k] = (List.range (k + 1)).map f := by rw [List.range_succ]; simp
theorem unitL_eq (m i : Nat) : unitL m i = (List.range m).map fun k => if k = i then ((1 : Int), (1 : Int)) else (0, 1) := rfl
section
variable {w : World} {a : Option Addr} {na ca : Nat} {b : Option Addr} {nb cb : Nat} {c : Option Addr} {nc cc : Nat} {A : List (List Int)} {B : List Int} {C : List (Int × Int)}
end
end Go.Proofs.YthjjfkeacobikaaGreat
namespace Go.Proofs.YthjjfkeacobikaaGreat
open Go.RowKit
theorem driveN_succ (n : Nat) (s : Tb × Nat) (k : Nat) : driveN n s (k + 1) = (driveN n s k).bind fun s' => driveF n s' k := rfl
section
variable {n : Nat} {s : Tb × Nat} {k : Nat} {tt : Tb} {lf : Nat}
theorem drive_stay (h : driveN n s k = some (tt, lf)) (hb : tt.basis[k]?.getD 0 < n) : driveN n s (k + 1) = some (tt, lf) := by
 rw [driveN_succ, h, Option.bind_some]; unfold driveF; rw [if_pos hb]
theorem drive_none (h : driveN n s k = some (tt, lf)) (hb : ¬ tt.basis[k]?.getD 0 < n) (ha : ((tt.row k).take n).all (fun c => !offZ c) = true) : driveN n s (k + 1) = some (tt, lf) := by
 rw [driveN_succ, h, Option.bind_some]; unfold driveF; rw [if_neg hb]; simp only; rw [indexF_none ha, if_pos (by omega)]
theorem drive_piv (h : driveN n s k = some (tt, lf)) (hb : ¬ tt.basis[k]?.getD 0 < n) {j : Nat} (hj : j < n) (hl : j < (tt.row k).length) (h0 : ((tt.row k).take j).all (fun c => !offZ c) = true) (h1 : offZ ((tt.row k)[j]?.getD (0, 0)) = true) (hlf : lf ≤ 1000) :
 driveN n s (k + 1) = (pivS tt (1000 - lf) k j).map fun x => (x.1, 1000 - x.2) := by
 have hi : indexF offZ ((tt.row k).take n) = j := by
  refine indexF_at (d := (0, 0)) (by simp; omega) (by rw [List.take_take, Nat.min_eq_left (by omega)]; exact h0) ?_
  rw [List.getElem?_take_of_lt hj]; exact h1
 rw [driveN_succ, h, Option.bind_some]; unfold driveF; rw [if_neg hb]; simp only; rw [hi, if_neg (by omega)]
 unfold pivS
 cases lf with
 | zero => rw [if_pos (by omega)]; rfl
 | succ f =>
   rw [if_neg (by omega)]
   simp only
   cases pivotT tt k j with
   | none => rfl
   | some t' => simp only [Option.map_some]; congr 2; omega
theorem drive_left (h : driveN n s k = some (tt, lf)) (hb : ¬ tt.basis[k]?.getD 0 < n) {j : Nat} (hj : j < n) (hl : j < (tt.row k).length) (h0 : ((tt.row k).take j).all (fun c => !offZ c) = true) (h1 : offZ ((tt.row k)[j]?.getD (0, 0)) = true) (hlf : lf ≤ 1000) :
 ((driveN n s (k + 1)).map fun x => (x.1, 1000 - x.2)) = pivS tt (1000 - lf) k j := by
 rw [drive_piv h hb hj hl h0 h1 hlf]
 unfold pivS
 split
 ·rfl
 ·next hn =>
  cases pivotT tt k j with
  | none => rfl
  | some t' => simp only [Option.map_some]; congr 2; omega
theorem driveN_stuck (h : driveN n s k = none) : ∀ {m : Nat}, k ≤ m → driveN n s m = none := by
 intro m hm
 obtain ⟨d, rfl⟩ : ∃ d, m = k + d := ⟨m - k, by omega⟩
 clear hm
 induction d with
 | zero => exact h
 | succ d ih => rw [show k + (d + 1) = (k + d) + 1 by omega, driveN_succ, ih]; rfl
end
theorem offZ_snoc {l : List (Int × Int)} {j : Nat} {p : Int × Int} (hj : j < l.length) (hp : l[j]?.getD (0, 0) = p) (h0 : (l.take j).all (fun c => !offZ c) = true) (h1 : offZ p = false) : (l.take (j + 1)).all (fun c => !offZ c) = true := by
 rw [take_snocR hj, List.all_append, h0, hp]; simp [h1]
theorem enterT_range (cs : List (Int × Int)) (m : Nat) : enterT cs m = -1 ∨ ∃ j : Nat, enterT cs m = j ∧ j < m := by
 unfold enterT
 split
 ·exact Or.inl rfl
 ·unfold indexF
  split
  ·next i hi =>
   right
   refine ⟨i, rfl, ?_⟩
   have := (List.findIdx?_eq_some_iff_getElem.1 hi).1
   rw [List.length_take] at this
   omega
  ·exact Or.inl rfl
theorem phase_col {n m : Nat} {T0 : Nat → Nat → Rat} {cost : List (Int × Int)} : ∀ {f : Nat} {t : Tb} {p : Ph}, TInv n m T0 t → phaseT cost f t = some p → p.col = -1 ∨ ∃ j : Nat, p.col = j ∧ j < n := by
 intro f
 induction f with
 | zero =>
   intro t p ht h
   unfold phaseT at h
   cases hc : costT t cost with
   | none => rw [hc] at h; cases h
   | some cs =>
     rw [hc] at h
     simp only at h
     split at h
     ·cases h; exact Or.inl rfl
     ·split at h
      ·cases h; rw [ht.cols]; exact enterT_range cs n
      ·cases h
 | succ f ih =>
   intro t p ht h
   unfold phaseT at h
   cases hc : costT t cost with
   | none => rw [hc] at h; cases h
   | some cs =>
     rw [hc] at h
     simp only at h
     split at h
     ·cases h; exact Or.inl rfl
     ·split at h
      ·cases h; rw [ht.cols]; exact enterT_range cs n
      ·cases hp : pivotT t (leaveT t (enterT cs t.cols)) (enterT cs t.cols) with
       | none => rw [hp] at h; cases h
       | some t' => rw [hp] at h; exact ih (pivotT_inv ht hp) h
theorem rayN_yes {t : Tb} {n col k : Nat} (h : t.basis[k]?.getD 0 < n) : rayN t n col (k + 1) = (rayN t n col k).set (t.basis[k]?.getD 0).toNat (negR (t.at k col)) := by simp only [rayN]; rw [if_pos h]
theorem rayN_no {t : Tb} {n col k : Nat} (h : ¬ t.basis[k]?.getD 0 < n) : rayN t n col (k + 1) = rayN t n col k := by simp only [rayN]; rw [if_neg h]
theorem rayN_len (t : Tb) (n col : Nat) : ∀ k, (rayN t n col k).length = n
 | 0 => by simp [rayN]
 | k + 1 => by
   by_cases h : t.basis[k]?.getD 0 < n
   ·rw [rayN_yes h, List.length_set]; exact rayN_len t n col k
   ·rw [rayN_no h]; exact rayN_len t n col k
theorem Rats.take {w : World} {a : Option Addr} {n cap : Nat} {l : List (Int × Int)} (h : Rats w a n cap l) {k : Nat} (hk : k ≤ n) : Rats w a k cap (l.take k) :=
 ⟨by rw [List.length_take, h.hlen]; omega, Nat.le_trans hk h.hcap, h.hmax, fun j hj => by
  obtain ⟨b, off, e, hc⟩ := h.cell j (by omega)
  refine ⟨b, off, e, fun i hi => ?_⟩
  rw [List.getElem?_take_of_lt hi]
  exact hc i (by omega)⟩
structure LrB (w W : World) (g : Nat) (s : Int) (vx vy vr : Value) (p q piv : Int) : Prop where
 ext : Ext w W
 hg : w.heap.size ≤ g
 box : W.heap[g]? = some (.cells #[.int .i64 s, vx, vy, vr, .int .i64 p, .int .i64 q, .int .i64 piv] 113 (0, 0))
abbrev lrZ : Obj := .cells #[.int .i64 0, .slice none 0 0, .slice none 0 0, .slice none 0 0, .int .i64 0, .int .i64 0, .int .i64 0] 113
section
variable {w W : World} {g : Nat} {s : Int} {vx vy vr : Value} {p q piv : Int}
end
theorem OwnR.onRats {w : World} {base b : Nat} {a : Option Addr} {n cap : Nat} {l : List (Int × Int)} (h : OwnR w b (.slice a n cap) l) (hb : base ≤ b) : On base w (fun W => Rats W a n cap l) :=
 fun w2 h2 => (h.keep fun k hk => h2 k (Nat.le_trans hb (h.lt k hk).1) (h.lt k hk).2).rats
theorem OwnR.onTake {w : World} {base b : Nat} {a : Option Addr} {n cap : Nat} {l : List (Int × Int)} (h : OwnR w b (.slice a n cap) l) (hb : base ≤ b) {k : Nat} (hk : k ≤ n) : On base w (fun W => Rats W a k cap (l.take k)) :=
 fun w2 h2 => (h.onRats hb w2 h2).take hk
theorem Rats.nilR (w : World) : Rats w none 0 0 [] := ⟨rfl, Nat.le_refl _, by omega, fun k hk => absurd hk (by omega)⟩
structure LrOw (w : World) (base : Nat) (xa : Option Addr) (xn xc : Nat) (ya : Option Addr) (yn yc : Nat) (ra : Option Addr) (rn rc : Nat) (r : LpR) : Prop where
 x : On base w fun W => Rats W xa xn xc r.X
 y : On base w fun W => Rats W ya yn yc r.Y
 ray : On base w fun W => Rats W ra rn rc r.ray
theorem LrOw.here {w : World} {base : Nat} {xa : Option Addr} {xn xc : Nat} {ya : Option Addr} {yn yc : Nat} {ra : Option Addr} {rn rc : Nat} {r : LpR} (h : LrOw w base xa xn xc ya yn yc ra rn rc r) : LrC w xa xn xc ya yn yc ra rn rc r := ⟨h.x.here, h.y.here, h.ray.here⟩
theorem LrOw.ext {w w' : World} {base : Nat} {xa : Option Addr} {xn xc : Nat} {ya : Option Addr} {yn yc : Nat} {ra : Option Addr} {rn rc : Nat} {r : LpR} (h : LrOw w base xa xn xc ya yn yc ra rn rc r) (hx : Ext w w') : LrOw w' base xa xn xc ya yn yc ra rn rc r := ⟨h.x.ext hx, h.y.ext hx, h.ray.ext hx⟩
theorem LrOw.keep {w w' : World} {base : Nat} {xa : Option Addr} {xn xc : Nat} {ya : Option Addr} {yn yc : Nat} {ra : Option Addr} {rn rc : Nat} {r : LpR} (h : LrOw w base xa xn xc ya yn yc ra rn rc r) (hs : w.heap.size ≤ w'.heap.size) (hk : ∀ k, base ≤ k → k < w.heap.size → w'.heap[k]? = w.heap[k]?) : LrOw w' base xa xn xc ya yn yc ra rn rc r :=
 ⟨h.x.keep hs hk, h.y.keep hs hk, h.ray.keep hs hk⟩
theorem LrOw.mono {w : World} {base base' : Nat} {xa : Option Addr} {xn xc : Nat} {ya : Option Addr} {yn yc : Nat} {ra : Option Addr} {rn rc : Nat} {r : LpR} (h : LrOw w base xa xn xc ya yn yc ra rn rc r) (hb : base' ≤ base) : LrOw w base' xa xn xc ya yn yc ra rn rc r := ⟨h.x.mono hb, h.y.mono hb, h.ray.mono hb⟩
theorem LrOw.zero (w : World) (base : Nat) (s : Int) : LrOw w base none 0 0 none 0 0 none 0 0 (lpZero s) := ⟨fun w _ => Rats.nilR w, fun w _ => Rats.nilR w, fun w _ => Rats.nilR w⟩
end Go.Proofs.YthjjfkeacobikaaGreat
