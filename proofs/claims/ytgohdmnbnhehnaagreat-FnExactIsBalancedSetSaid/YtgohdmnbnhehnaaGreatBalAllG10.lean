import Derived.Test.YtgohdmnbnhehnaaGreatBalAllG7
import Derived.Test.YtgohdmnbnhehnaaGreatBalAllG8
import Derived.Test.YtgohdmnbnhehnaaGreatBalAllG9
namespace Go.Proofs.YtgohdmnbnhehnaaGreat
set_option linter.unusedVariables false
set_option linter.unusedSimpArgs false
set_option maxRecDepth 100000
open Go.RowKit
structure LpC (w : World) (a : Option Addr) (na ca : Nat) (b : Option Addr) (nb cb : Nat) (c : Option Addr) (nc cc : Nat) (A : List (List Int)) (B : List Int) (C : List (Int × Int)) : Prop where
  a : IntSS w a na ca A
  b : Ints w b nb cb B
  c : Rats w c nc cc C
theorem LpC.ext {w w' : World} {a : Option Addr} {na ca : Nat} {b : Option Addr} {nb cb : Nat} {c : Option Addr} {nc cc : Nat} {A : List (List Int)} {B : List Int} {C : List (Int × Int)} (h : LpC w a na ca b nb cb c nc cc A B C) (hx : Ext w w') : LpC w' a na ca b nb cb c nc cc A B C :=
  ⟨h.a.ext hx, h.b.ext hx, h.c.ext hx⟩
abbrev lpW (a : Option Addr) (na ca : Nat) (b : Option Addr) (nb cb : Nat) (c : Option Addr) (nc cc : Nat) : Value := .agg #[.slice a na ca, .slice b nb cb, .slice c nc cc]
abbrev lpBox (a : Option Addr) (na ca : Nat) (b : Option Addr) (nb cb : Nat) (c : Option Addr) (nc cc : Nat) : Obj := .cells #[.slice a na ca, .slice b nb cb, .slice c nc cc] 67
theorem dotN_step {A B : List (Int × Int)} {k : Nat} {s : Int × Int} (h : dotN A B k = some s) : dotN A B (k + 1) = if (mulR (A[k]?.getD (0, 0)) (B[k]?.getD (0, 0))).2 = true ∧ (addR s (mulR (A[k]?.getD (0, 0)) (B[k]?.getD (0, 0))).1).2 = true
      then some (addR s (mulR (A[k]?.getD (0, 0)) (B[k]?.getD (0, 0))).1).1 else none := by simp only [dotN, h, Option.bind_some]
theorem dotN_none {A B : List (Int × Int)} {k : Nat} (h : dotN A B k = none) : ∀ {n : Nat}, k ≤ n → dotN A B n = none
  | n, hn => by
    obtain ⟨d, rfl⟩ : ∃ d, n = k + d := ⟨n - k, by omega⟩
    clear hn
    induction d with
    | zero => exact h
    | succ d ih => show (dotN A B (k + d)).bind _ = none; rw [ih]; rfl
def optR (o : Option (Int × Int)) : (Int × Int) × Bool := (o.getD (0, 0), o.isSome)
set_option maxHeartbeats 8000000 in
theorem i_DotRat {w : World} {a b : Option Addr} {n cap n' cap' : Nat} {A B : List (Int × Int)} (h : Rats w a n cap A) (h' : Rats w b n' cap' B) :
    Calls Tryz.prog 194 #[.slice a n cap, .slice b n' cap'] w fun e w' => e = .returned (resR (optR (dotL A B))) ∧ Ext w w' := by
  have HL := Lib.hid h.hlen
  have HL' := Lib.hid h'.hlen
  have hcap := h.hcap
  have hmax := h.hmax
  have hcap' := h'.hcap
  have hmax' := h'.hmax
  have hx0 := Ext.alloc w (.cells #[.int .i64 0, .int .i64 0] 85)
  have HIA := Lib.hid (h.ext hx0)
  have HIB := Lib.hid (h'.ext hx0)
  have HX0 := Lib.hid hx0
  have HRB := Lib.hid (show (w.alloc (.cells #[.int .i64 0, .int .i64 0] 85)).heap[w.heap.size]? = some (.cells #[.int .i64 0, .int .i64 0] 85 (0, 0)) from heapA_new _ _ _ rfl)
  clear h h' hx0
  by_cases hne : n = n'
  · subst hne
    have HD := Lib.hid (show dotL A B = dotN A B n by unfold dotL; rw [HL.out, HL'.out, if_pos rfl])
    have hnn : ((n : Int) != (n : Int)) = false := by simp
    go_enter Tryz.func194, Tryz.ntmps194
    go_wp2_with fail
    refine (i_whole 0 _).mono ?_
    rintro e w1 ⟨rfl, hx1⟩
    have HX1 := Lib.hid hx1
    have HB0 := Lib.hid (Boxed.new (Ext.refl w1) 0 1)
    have HRW := Lib.hid (fun (w' : World) (hx : Ext w1 w') => (hx.block _ (by have := lt_of_block HRB.out; have := HX1.out.size; omega)).trans ((HX1.out.block _ (lt_of_block HRB.out)).trans HRB.out))
    have HXW := Lib.hid (HX0.out.trans HX1.out)
    have hsw1 : w.heap.size < w1.heap.size := by have := lt_of_block HRB.out; have := HX1.out.size; omega
    clear hx1
    go_wp2_with fail
    go_loopg [21] n (fun gk ii wr => ∃ (k : Nat) (p q : Int), Hid (gk + k = n) ∧ ii = .int .i64 (k : Int) ∧ Hid (Boxed w1 wr w1.heap.size p q) ∧ Hid (dotN A B k = some (p, q)))
    case atStart => exact ⟨0, 0, 1, Lib.hid (by omega), rfl, HB0, Lib.hid rfl⟩
    case round =>
      obtain ⟨g1, h_g1⟩ : ∃ x, x = gk := ⟨_, rfl⟩
      subst h_g1
      obtain ⟨wr1, h_wr1⟩ : ∃ x, x = wr := ⟨_, rfl⟩
      subst h_wr1
      obtain ⟨k, p, q, HK, rfl, HB, HT⟩ := hrel
      have hb0 := HB.out.c0
      have hb1 := HB.out.c1
      have hbl := HB.out.lt
      have hszb := HB.out.ext.size
      by_cases hlt : k < n
      · obtain ⟨ab, aoff, ax, ay, ha, hax, hac0, hac1⟩ := (HIA.out.ext (HX1.out.trans HB.out.ext)).at hlt
        obtain ⟨bb, boff, bx, by', hb, hbx, hbc0, hbc1⟩ := (HIB.out.ext (HX1.out.trans HB.out.ext)).at hlt
        subst ha hb
        obtain ⟨mx, my, one, hm⟩ : ∃ x y ok, mulR (ax, ay) (bx, by') = ((x, y), ok) := ⟨_, _, _, rfl⟩
        have HM := Lib.hid hm
        obtain ⟨p2, q2, two, hs2⟩ : ∃ u v ok, addR (p, q) (mx, my) = ((u, v), ok) := ⟨_, _, _, rfl⟩
        have HS2 := Lib.hid hs2
        have HST := Lib.hid (show dotN A B (k + 1) = if one = true ∧ two = true then some (p2, q2) else none by rw [dotN_step HT.out, hax, hbx, hm]; simp only; rw [hs2])
        clear hax hbx hm hs2
        go_upto_region 7 with fail
        go_cut [8, 9] (fun sx so wx => ∃ g : Nat, sx = .pointer (some ⟨g, 0, none⟩) ∧ so = .bool one ∧ Hid (Boxed wr1 wx g mx my))
        case first =>
          have hk2 : Ext wr1 wr1.drew := Ext.drew wr1
          have hka : Ext wr1 (wr1.alloc (.cells #[.int .i64 0, .int .i64 0] 85)).drew := (Ext.alloc _ _).trans (Ext.drew _)
          have HKEEP := Lib.hid (fun (w' : World) (h : Ext wr1 w') => (⟨h.cellSome hac0, h.cellSome hac1, h.cellSome hbc0, h.cellSome hbc1, h⟩ : w'.cell? ⟨ab, aoff + k * 2, none⟩ = some (.int .i64 ax) ∧ w'.cell? ⟨ab, aoff + k * 2 + 1, none⟩ = some (.int .i64 ay) ∧ w'.cell? ⟨bb, boff + k * 2, none⟩ = some (.int .i64 bx) ∧ w'.cell? ⟨bb, boff + k * 2 + 1, none⟩ = some (.int .i64 by') ∧ Ext wr1 w'))
          go_region_held3 (fun w' => w'.cell? ⟨ab, aoff + k * 2, none⟩ = some (.int .i64 ax) ∧ w'.cell? ⟨ab, aoff + k * 2 + 1, none⟩ = some (.int .i64 ay) ∧ w'.cell? ⟨bb, boff + k * 2, none⟩ = some (.int .i64 bx) ∧ w'.cell? ⟨bb, boff + k * 2 + 1, none⟩ = some (.int .i64 by') ∧ Ext wr1 w')
            (first
              | with_reducible exact HKEEP.out _ hk2
              | with_reducible exact HKEEP.out _ hka
              | with_reducible exact HKEEP.out _ ((hk2.setCell (by first | (simp; done) | (simp; omega)) _).setCell (by first | (simp; done) | (simp; omega)) _)
              | with_reducible exact HKEEP.out _ (hk2.trans (Ext.alloc _ _))
              | with_reducible exact HKEEP.out _ (hBB.put _ _).ext)
            (first
              | (go_at_call 229
                 (with_reducible refine (i_MulRat ax ay bx by' _).mono ?_)
                 rw [HM.out]
                 rintro e w3 ⟨rfl, hx_w3⟩
                 first | (with_reducible have hBB := Boxed.grow hBB hx_w3) | (with_reducible have hBB := Boxed.firstD hx_w3) | (with_reducible have hBB := Boxed.laterD hk2 hx_w3) | skip
                 first | (have b0_ := hBB.c0; have b1_ := hBB.c1; have fb_ := hBB.free) | skip
                 have hk2 : Ext wr1 w3 := by first | with_reducible exact hk2.trans hx_w3 | with_reducible exact hka.trans hx_w3 | with_reducible exact (hk2.trans (Ext.alloc _ _)).trans hx_w3
                 have hk2s := hk2.size)
              | fail)
          all_goals (go_wp2_with fail; go_meet; first | exact ⟨_, rfl, rfl, Lib.hid (hBB.put _ _)⟩ | exact ⟨_, rfl, rfl, Lib.hid (Boxed.new hk2 _ _)⟩ | exact ⟨_, rfl, rfl, Lib.hid (Boxed.new' hk2 _ _ (by simp))⟩)
        obtain ⟨g, rfl, rfl, HB1⟩ := hcut
        have g0 := HB1.out.c0
        have g1' := HB1.out.c1
        have hB3 := HB.out.grow HB1.out.ext
        have hb0' := hB3.c0
        have hb1' := hB3.c1
        have HB3 := Lib.hid hB3
        clear hb0 hb1 hac0 hac1 hbc0 hbc1 hB3
        go_wp2_with fail
        refine (i_AddRat p q mx my _).mono ?_
        rw [HS2.out]
        rintro e w4 ⟨rfl, hx4⟩
        have HB4 := Lib.hid (HB3.out.grow hx4)
        have HB5 := Lib.hid (HB4.out.grow (Ext.alloc _ (.cells #[.int .i64 p2, .int .i64 q2] 85)))
        have hr := rcell (HRW.out _ HB5.out.ext)
        obtain ⟨hr0, hr1, hrf⟩ := hr
        have HX5 := Lib.hid HB5.out.ext
        have hbf := HB5.out.free
        have hb5l := HB4.out.lt
        have hw4 := HB4.out.ext.size
        have h40 := HB4.out.c0
        have h41 := HB4.out.c1
        have h4f := HB4.out.free
        clear hx4 g0 g1' hb0' hb1'
        cases one
        · have HN := Lib.hid (show dotL A B = none by rw [HD.out]; exact dotN_none (k := k + 1) (by rw [HST.out]; simp) hlt)
          go_wp2_with fail
          refine bodyPost_ret (v := .tuple #[.agg #[.int .i64 0, .int .i64 0], .bool false]) (by simp [results, Tryz.results194, go_sem, hr0, hr1]) rfl ⟨by rw [HN.out]; rfl, (((HXW.out.trans HX5.out).store 0 (Nat.le_refl _) _).store 1 (Nat.le_refl _) _)⟩
        · cases two
          · have HN := Lib.hid (show dotL A B = none by rw [HD.out]; exact dotN_none (k := k + 1) (by rw [HST.out]; simp) hlt)
            go_wp2_with fail
            refine bodyPost_ret (v := .tuple #[.agg #[.int .i64 0, .int .i64 0], .bool false]) (by simp [results, Tryz.results194, go_sem, hr0, hr1]) rfl ⟨by rw [HN.out]; rfl, (((HXW.out.trans HX5.out).store 0 (Nat.le_refl _) _).store 1 (Nat.le_refl _) _)⟩
          · have HT2 := Lib.hid (show dotN A B (k + 1) = some (p2, q2) by rw [HST.out]; simp)
            have HB6 := Lib.hid ((HB4.out.put p2 q2).grow (Ext.alloc _ (.cells #[.int .i64 p2, .int .i64 q2] 85)))
            go_wp2_with fail
            go_roundg (g1 - 1)
            case measure => have := HK.out; omega
            case rel => exact ⟨k + 1, p2, q2, Lib.hid (by have := HK.out; omega), by go_num, HB6, HT2⟩
      · have hkn : n = k := by have := HK.out; omega
        subst hkn
        have HY := Lib.hid (show dotL A B = some (p, q) by rw [HD.out]; exact HT.out)
        have hr := rcell (HRW.out wr1 HB.out.ext)
        obtain ⟨hr0, hr1, hrf⟩ := hr
        go_wp2_with fail
        refine bodyPost_ret (v := .tuple #[.agg #[.int .i64 p, .int .i64 q], .bool true]) (by simp [results, Tryz.results194, go_sem, hr0, hr1]) rfl ⟨by rw [HY.out]; rfl, (((HXW.out.trans HB.out.ext).store 0 (Nat.le_refl _) _).store 1 (Nat.le_refl _) _)⟩
  · have HN := Lib.hid (show dotL A B = none by unfold dotL; rw [HL.out, HL'.out, if_neg hne])
    have hnn : ((n : Int) != (n' : Int)) = true := by simp; omega
    have hr := rcell HRB.out
    obtain ⟨hr0, hr1, hrf⟩ := hr
    go_enter Tryz.func194, Tryz.ntmps194
    go_wp2_with fail
    refine bodyPost_ret (v := .tuple #[.agg #[.int .i64 0, .int .i64 0], .bool false]) (by simp [results, Tryz.results194, go_sem, hr0, hr1]) rfl ⟨by rw [HN.out]; rfl, HX0.out⟩
theorem colL_snoc {A : List (List Int)} {j k : Nat} (h : k < A.length) : colL (A.take k) j ++ [(A[k]?.getD [])[j]?.getD 0] = colL (A.take (k + 1)) j := by
  rw [takeL_snoc h]; simp [colL]
set_option maxHeartbeats 4000000 in
theorem i_column {w : World} {a : Option Addr} {na ca : Nat} {b : Option Addr} {nb cb : Nat} {c : Option Addr} {nc cc : Nat} {A : List (List Int)} (h : IntSS w a na ca A) {m j : Nat} (hl : ∀ i, i < na → (A[i]?.getD []).length = m) (hj : j < m) (hm : m ≤ 1000000) (hbig : na ≤ 1048576) :
    Calls Tryz.prog 195 #[lpW a na ca b nb cb c nc cc, .int .i64 (j : Int)] w fun e w' => (∃ v, e = .returned v ∧ OwnI w' w.heap.size v (colL A j)) ∧ Ext w w' := by
  have hcap := h.hcap
  have hmax := h.hmax
  have HL := Lib.hid h.hlen
  have hx0 := Ext.alloc w (lpBox a na ca b nb cb c nc cc)
  have HX0 := Lib.hid hx0
  have HI := Lib.hid (h.ext hx0)
  have HLL := Lib.hid hl
  have HO := Lib.hid (OwnI.madeS (w.alloc (lpBox a na ca b nb cb c nc cc)) (w.heap.size + 1) _ rfl (by simp))
  clear h hx0 hl
  go_enter Tryz.func195, Tryz.ntmps195
  go_wp2_with fail
  go_loopg [5, 12] na (fun gk o ii wr => ∃ (k : Nat) (a1 : Option Addr) (n1 p1 : Nat), Hid (gk + k = na) ∧ ii = .int .i64 (k : Int) ∧ o = .slice a1 n1 p1 ∧ Hid (OwnI wr (w.heap.size + 1) (.slice a1 n1 p1) (colL (A.take k) j)) ∧ Hid (Ext (w.alloc (lpBox a na ca b nb cb c nc cc)) wr))
  case atStart => exact ⟨0, _, _, _, Lib.hid (by omega), rfl, rfl, Lib.hid (by simpa [colL] using HO.out), Lib.hid (Ext.alloc _ _)⟩
  case round =>
    obtain ⟨g1, h_g1⟩ : ∃ x, x = gk := ⟨_, rfl⟩
    subst h_g1
    obtain ⟨wr1, h_wr1⟩ : ∃ x, x = wr := ⟨_, rfl⟩
    subst h_wr1
    obtain ⟨k, a1, n1, p1, HK, rfl, rfl, HO1, HX1⟩ := hrel
    have hsz := HX1.out.size
    rw [World.size_alloc] at hsz
    by_cases hlt : k < na
    · obtain ⟨gb, goff, ra, rn, rc, rfl, hgc, hrow⟩ := (HI.out.ext HX1.out).at hlt
      have hrn : rn = m := by rw [← hrow.hlen]; exact HLL.out k hlt
      subst hrn
      obtain ⟨eb, eoff, rfl, hec⟩ := hrow.at hj
      obtain ⟨x, hx⟩ : ∃ x, x = (A[k]?.getD [])[j]?.getD 0 := ⟨_, rfl⟩
      rw [← hx] at hec
      have HS := Lib.hid (show colL (A.take k) j ++ [x] = colL (A.take (k + 1)) j by rw [hx]; exact colL_snoc (by rw [HL.out]; exact hlt))
      have HLK := Lib.hid (show (colL (A.take k) j).length = k by simp [colL]; have := HL.out; omega)
      have hrc := hrow.hcap
      have hrm := hrow.hmax
      clear hrow hx
      go_wp2_with (first
        | (at_builtin; refine append_ints rfl _ _ rfl (w.heap.size + 1) (.slice a1 n1 p1) _ rfl (HO1.out.ext (Ext.alloc _ _)) _ 1 _ [x] rfl (Ints.oneS _ _ _ _ (by simp)) (by rw [HLK.out]; omega) (by simp; omega) ?_; intro v2 w3 ho hg hnear; have X5 := Lib.hid (ext_grown (HX1.out.trans (Ext.alloc _ _)) hg (fun i hi => by have := (HO1.out.lt i hi).1; simpa using this)); obtain ⟨a2, n2, c2, rfl, HN2⟩ := ho.var; have HO4 := Lib.hid ho; clear ho hg hnear))
      go_roundg (g1 - 1)
      case measure => have := HK.out; omega
      case rel => exact ⟨k + 1, a2, n2, c2, Lib.hid (by have := HK.out; omega), by go_num, rfl, Lib.hid (by rw [← HS.out]; exact HO4.out), X5⟩
    · have hkn : na = k := by have := HK.out; omega
      subst hkn
      have HT := Lib.hid (show A.take na = A from List.take_of_length_le (by rw [HL.out]; exact Nat.le_refl _))
      rw [HT.out] at HO1
      go_wp2_with fail
      go_ret
      exact ⟨⟨_, rfl, HO1.out.mono (Nat.le_succ _)⟩, HX0.out.trans HX1.out⟩
end Go.Proofs.YtgohdmnbnhehnaaGreat
namespace Go.Proofs.YtgohdmnbnhehnaaGreat
set_option linter.unusedVariables false
set_option linter.unusedSimpArgs false
set_option maxRecDepth 100000
open Go.RowKit
theorem allR_succ (p : Nat → Bool) (k : Nat) : (List.range (k + 1)).all p = ((List.range k).all p && p k) := by
  rw [List.range_succ, List.all_append]; simp
theorem allR_false {p : Nat → Bool} {k n : Nat} (h : k < n) (hp : p k = false) : (List.range n).all p = false := by
  rw [List.all_eq_false]; exact ⟨k, List.mem_range.2 h, by simp [hp]⟩
theorem i_IsValidLP1 (x : Int) (w : World) : Calls Tryz.prog 187 #[.int .i64 x] w fun e w' => e = .returned (.bool (!inB x (-5000) 5000)) ∧ w = w' := by
  go_enter Tryz.func187, Tryz.ntmps187
  go_wp2_with (first | (go_at_call 62; refine (i_within _ _ _ _).mono ?_; rintro e w' ⟨rfl, rfl⟩))
  go_ret
  exact ⟨rfl, rfl⟩
theorem go_IsValidLP1 : IsGo Tryz.prog 187 := isGo Tryz.func187 (by kernel_rfl) (by kernel_rfl)
theorem asks_IsValidLP1 (w : World) : Asks Tryz.prog w 187 #[] (fun x => !inB x (-5000) 5000) :=
  fun x w1 _ => (i_IsValidLP1 x w1).mono fun e w' ⟨he, hw⟩ => ⟨he, hw ▸ Ext.refl _⟩
def okRowI (m : Nat) (r : List Int) : Bool := decide (r.length = m) && r.all (inB · (-5000) 5000)
theorem any_bad (l : List Int) : l.any (fun x => !inB x (-5000) 5000) = !l.all (inB · (-5000) 5000) := by rw [List.not_all_eq_any_not]
theorem okLP_eq (A : List (List Int)) (B : List Int) (C : List (Int × Int)) : okLP A B C = (decide (C.length ≤ 70) && (decide (A.length ≤ 8) && (decide (B.length = A.length) && (allV C && (A.all (okRowI C.length) && B.all (inB · (-5000) 5000)))))) := rfl
theorem all_takeL {p : List Int → Bool} {l : List (List Int)} {k : Nat} (h : k < l.length) : (l.take (k + 1)).all p = ((l.take k).all p && p (l[k]?.getD [])) := by
  rw [takeL_snoc h]; simp
theorem all_falseL {p : List Int → Bool} {l : List (List Int)} {k : Nat} (h : k < l.length) (hb : p (l[k]?.getD []) = false) : l.all p = false := by
  rw [List.all_eq_false]
  exact ⟨l[k], List.getElem_mem h, by rw [List.getElem?_eq_getElem h] at hb; simpa using hb⟩
section
variable {w : World} {a : Option Addr} {na ca : Nat} {b : Option Addr} {nb cb : Nat} {c : Option Addr} {nc cc : Nat} {A : List (List Int)} {B : List Int} {C : List (Int × Int)}
set_option maxHeartbeats 8000000 in
theorem i_IsValidLP (h : LpC w a na ca b nb cb c nc cc A B C) :
    Calls Tryz.prog 135 #[lpW a na ca b nb cb c nc cc] w fun e w' => e = .returned (.bool (okLP A B C)) ∧ Ext w w' := by
  have hx0 := Ext.alloc w (lpBox a na ca b nb cb c nc cc)
  have HX0 := Lib.hid hx0
  have H := Lib.hid (h.ext hx0)
  have HE := Lib.hid (okLP_eq A B C)
  have ha1 := h.a.hcap
  have ha2 := h.a.hmax
  have hb1 := h.b.hcap
  have hb2 := h.b.hmax
  have hc1 := h.c.hcap
  have hc2 := h.c.hmax
  have HLA := Lib.hid h.a.hlen
  have HLB := Lib.hid h.b.hlen
  have HLC := Lib.hid h.c.hlen
  clear h hx0
  by_cases h1 : nc ≤ 70
  · by_cases h2 : na ≤ 8
    · by_cases h3 : nb = na
      · subst h3
        have hbb : ((nb : Int) != (nb : Int)) = false := by simp
        have HE2 := Lib.hid (show okLP A B C = (allV C && (A.all (okRowI nc) && B.all (inB · (-5000) 5000))) by
          rw [HE.out, HLA.out, HLB.out, HLC.out, decide_eq_true h1, decide_eq_true h2, decide_eq_true rfl]; rfl)
        have HV := Lib.hid (i_AllValid H.out.c)
        cases hv : allV C
        · rw [hv] at HV HE2
          clear hv
          go_enter Tryz.func135, Tryz.ntmps135
          go_wp2_with fail
          refine HV.out.mono ?_
          rintro e w1 ⟨rfl, hx⟩
          have X1 := Lib.hid (HX0.out.trans hx)
          clear hx
          go_wp2_with fail
          go_ret
          exact ⟨ret_bool HE2.out.symm, X1.out⟩
        · rw [hv] at HV HE2
          clear hv
          go_enter Tryz.func135, Tryz.ntmps135
          go_wp2_with fail
          refine HV.out.mono ?_
          rintro e w1 ⟨rfl, hx⟩
          have hc0 : w1.cell? ⟨w.heap.size, 0, none⟩ = some (.slice a nb ca) := hx.cellSome (by simp)
          have hcb : w1.cell? ⟨w.heap.size, 1, none⟩ = some (.slice b nb cb) := hx.cellSome (by simp)
          have hcc : w1.cell? ⟨w.heap.size, 2, none⟩ = some (.slice c nc cc) := hx.cellSome (by simp)
          have HC1 := Lib.hid hcb
          have HC2 := Lib.hid hcc
          have H1 := Lib.hid (H.out.ext hx)
          have X1 := Lib.hid (HX0.out.trans hx)
          clear hx hcb hcc
          go_wp2_with fail
          go_loopg [34] nb (fun gk ii wr => ∃ k : Nat, Hid (gk + k = nb) ∧ ii = .int .i64 (k : Int) ∧ Hid ((A.take k).all (okRowI nc) = true) ∧ Hid (Ext w1 wr))
          case atStart => exact ⟨0, Lib.hid (by omega), rfl, Lib.hid rfl, Lib.hid (Ext.refl _)⟩
          case round =>
            obtain ⟨g1, h_g1⟩ : ∃ x, x = gk := ⟨_, rfl⟩
            subst h_g1
            obtain ⟨wr1, h_wr1⟩ : ∃ x, x = wr := ⟨_, rfl⟩
            subst h_wr1
            obtain ⟨k, HK, rfl, HA, HX⟩ := hrel
            clear hc0
            by_cases hlt : k < nb
            · obtain ⟨gb, goff, ra, rn, rc, hga, hgc, hrow⟩ := (H1.out.ext HX.out).a.at hlt
              subst hga
              have hcc := HX.out.cellSome HC2.out
              have HLR := Lib.hid hrow.hlen
              have hrn := hrow.hcap
              have hrm := hrow.hmax
              have HKA := Lib.hid (show k < A.length by rw [HLA.out]; exact hlt)
              have HCF := Lib.hid (containsFunc_ints hrow go_IsValidLP1 (asks_IsValidLP1 _))
              clear hrow
              cases hl : ((rn : Int) != (nc : Int))
              · cases hr : (A[k]?.getD []).all (inB · (-5000) 5000)
                · have HF := Lib.hid (show okLP A B C = false by
                    rw [HE2.out, all_falseL HKA.out (by unfold okRowI; rw [hr]; simp)]; rfl)
                  rw [any_bad, hr] at HCF
                  clear hr
                  go_wp2_with fail
                  refine HCF.out.mono ?_
                  rintro e w2 ⟨rfl, hx2⟩
                  have X2 := Lib.hid ((X1.out.trans HX.out).trans hx2)
                  clear hx2
                  go_wp2_with fail
                  go_ret
                  exact ⟨ret_bool HF.out.symm, X2.out⟩
                · have HT := Lib.hid (show (A.take (k + 1)).all (okRowI nc) = true by
                    rw [all_takeL HKA.out, HA.out]; unfold okRowI; rw [hr, HLR.out]; simp at hl ⊢; omega)
                  rw [any_bad, hr] at HCF
                  clear hr
                  go_wp2_with fail
                  refine HCF.out.mono ?_
                  rintro e w2 ⟨rfl, hx2⟩
                  have X2 := Lib.hid (HX.out.trans hx2)
                  clear hx2
                  go_wp2_with fail
                  go_roundg (g1 - 1)
                  case measure => have := HK.out; omega
                  case rel => exact ⟨k + 1, Lib.hid (by have := HK.out; omega), by go_num, HT, X2⟩
              · have HF := Lib.hid (show okLP A B C = false by
                  rw [HE2.out, all_falseL HKA.out (by unfold okRowI; rw [HLR.out, decide_eq_false (by simp at hl; omega)]; rfl)]; rfl)
                go_wp2_with fail
                go_ret
                exact ⟨ret_bool HF.out.symm, X1.out.trans HX.out⟩
            · have hkn : nb = k := by have := HK.out; omega
              subst hkn
              have HT := Lib.hid (show A.all (okRowI nc) = true by have := HA.out; rwa [List.take_of_length_le (by rw [HLA.out]; exact Nat.le_refl _)] at this)
              have hcb := HX.out.cellSome HC1.out
              have HCF := Lib.hid (containsFunc_ints (H1.out.ext HX.out).b go_IsValidLP1 (asks_IsValidLP1 _))
              rw [any_bad] at HCF
              go_wp2_with fail
              refine HCF.out.mono ?_
              rintro e w2 ⟨rfl, hx2⟩
              have X2 := Lib.hid ((X1.out.trans HX.out).trans hx2)
              clear hx2
              go_wp2_with fail
              go_ret
              exact ⟨ret_bool (by rw [HE2.out, HT.out]; simp), X2.out⟩
      · have HF := Lib.hid (show okLP A B C = false by rw [HE.out, HLA.out, HLB.out, decide_eq_false h3]; simp)
        have hbb : ((nb : Int) != (na : Int)) = true := by simp; omega
        go_enter Tryz.func135, Tryz.ntmps135
        go_wp2_with fail
        go_ret
        exact ⟨ret_bool HF.out.symm, HX0.out⟩
    · have HF := Lib.hid (show okLP A B C = false by rw [HE.out, HLA.out, decide_eq_false h2]; simp)
      go_enter Tryz.func135, Tryz.ntmps135
      go_wp2_with fail
      go_ret
      exact ⟨ret_bool HF.out.symm, HX0.out⟩
  · have HF := Lib.hid (show okLP A B C = false by rw [HE.out, HLC.out, decide_eq_false h1]; simp)
    go_enter Tryz.func135, Tryz.ntmps135
    go_wp2_with fail
    go_ret
    exact ⟨ret_bool HF.out.symm, HX0.out⟩
end
end Go.Proofs.YtgohdmnbnhehnaaGreat
namespace Go.Proofs.YtgohdmnbnhehnaaGreat
set_option linter.unusedVariables false
set_option linter.unusedSimpArgs false
set_option maxRecDepth 100000
open Go.RowKit
theorem fit_small {r : List Int} (h : ∀ x ∈ r, -5000 ≤ x ∧ x ≤ 5000) : ratsL r = wholeL r := by
  unfold ratsL fitL
  rw [if_pos]
  rw [List.all_eq_true]
  intro x hx
  have := h x hx
  simp [inB]; omega
def giveF (A : List (List Int)) (x : List (Int × Int)) (B : List Int) (i : Nat) : Bool := decide (dotL (wholeL (A[i]?.getD [])) x = some (B[i]?.getD 0, 1))
theorem givesB_eq (A : List (List Int)) (x : List (Int × Int)) (B : List Int) : givesB A x B = (List.range A.length).all (giveF A x B) := rfl
set_option maxHeartbeats 8000000 in
theorem i_gives {w : World} {a : Option Addr} {na ca : Nat} {b : Option Addr} {nb cb : Nat} {c : Option Addr} {nc cc : Nat} {A : List (List Int)} (h : IntSS w a na ca A) {xa : Option Addr} {xn xcap : Nat} {X : List (Int × Int)} (hX : Rats w xa xn xcap X)
    {da : Option Addr} {dn dcap : Nat} {D : List Int} (hD : Ints w da dn dcap D) (hdn : na ≤ dn) (hrow : ∀ i, i < na → (A[i]?.getD []).length ≤ 70 ∧ ∀ x ∈ A[i]?.getD [], -5000 ≤ x ∧ x ≤ 5000) :
    Calls Tryz.prog 197 #[lpW a na ca b nb cb c nc cc, .slice xa xn xcap, .slice da dn dcap] w fun e w' => e = .returned (.bool (givesB A X D)) ∧ Ext w w' := by
  have hx0 := Ext.alloc w (lpBox a na ca b nb cb c nc cc)
  have HX0 := Lib.hid hx0
  have HI := Lib.hid (h.ext hx0)
  have HXX := Lib.hid (hX.ext hx0)
  have HDD := Lib.hid (hD.ext hx0)
  have HRW := Lib.hid hrow
  have ha1 := h.hcap
  have ha2 := h.hmax
  have hd1 := hD.hcap
  have hd2 := hD.hmax
  have HLA := Lib.hid h.hlen
  have HE := Lib.hid (show givesB A X D = (List.range na).all (giveF A X D) by rw [givesB_eq, HLA.out])
  clear h hX hD hx0 hrow
  go_enter Tryz.func197, Tryz.ntmps197
  go_wp2_with fail
  go_loopg [14] na (fun gk ii wr => ∃ k : Nat, Hid (gk + k = na) ∧ ii = .int .i64 (k : Int) ∧ Hid ((List.range k).all (giveF A X D) = true) ∧ Hid (Ext (w.alloc (lpBox a na ca b nb cb c nc cc)) wr))
  case atStart => exact ⟨0, Lib.hid (by omega), rfl, Lib.hid rfl, Lib.hid (Ext.refl _)⟩
  case round =>
    obtain ⟨g1, h_g1⟩ : ∃ x, x = gk := ⟨_, rfl⟩
    subst h_g1
    obtain ⟨wr1, h_wr1⟩ : ∃ x, x = wr := ⟨_, rfl⟩
    subst h_wr1
    obtain ⟨k, HK, rfl, HA, HX⟩ := hrel
    have hsz := HX.out.size
    rw [World.size_alloc] at hsz
    by_cases hlt : k < na
    · obtain ⟨gb, goff, ra, rn, rc, hga, hgc, hrow⟩ := (HI.out.ext HX.out).at hlt
      subst hga
      have hrn : rn ≤ 70 := by rw [← hrow.hlen]; exact (HRW.out k hlt).1
      have HRT := Lib.hid (i_rats hrow (by omega))
      rw [fit_small (HRW.out k hlt).2] at HRT
      clear hrow
      go_wp2_with fail
      refine HRT.out.mono ?_
      rintro e w2 ⟨⟨v2, rfl, ho2⟩, hx2⟩
      obtain ⟨a2, n2, c2, rfl, hn2⟩ := ho2.var
      have X2 := Lib.hid (HX.out.trans hx2)
      have HD := Lib.hid (i_DotRat ho2.rats (HXX.out.ext X2.out))
      clear ho2 hx2 hn2
      obtain ⟨dv, hdv⟩ : ∃ d, d = dotL (wholeL (A[k]?.getD [])) X := ⟨_, rfl⟩
      have HG := Lib.hid (show giveF A X D k = decide (dv = some (D[k]?.getD 0, 1)) by rw [hdv]; rfl)
      rw [← hdv] at HD
      clear hdv
      obtain ⟨db, doff, hda, hdc⟩ := (HDD.out.ext X2.out).at (show k < dn by omega)
      subst hda
      obtain ⟨d, hd⟩ : ∃ d, d = D[k]?.getD 0 := ⟨_, rfl⟩
      rw [← hd] at HG hdc
      clear hd
      cases dv with
      | none =>
        rw [show optR none = ((0, 0), false) from rfl] at HD
        have HF := Lib.hid (show givesB A X D = false by rw [HE.out]; exact allR_false hlt (by rw [HG.out]; rfl))
        go_wp2_with fail
        refine HD.out.mono ?_
        rintro e w3 ⟨rfl, hx3⟩
        have X3 := Lib.hid (X2.out.trans hx3)
        clear hx3 hdc
        obtain ⟨E, hE⟩ : ∃ E, E = w3.alloc (.cells #[.int .i64 0, .int .i64 0] 85) := ⟨_, rfl⟩
        have XE := Lib.hid (show Ext w3 E by rw [hE]; exact Ext.alloc _ _)
        go_upto_region 5 with fail
        rw [← hE]
        clear hE
        have hk2 : Ext E E.drew := Ext.drew E
        refine wp_region_held_drew (S := (fun w' => Ext E w')) (by kernel_rfl) ?_ (fun hHeld => ?_)
        · exact hk2
        refine wpAnyH_take (i := 0) (oi := ?_) (v := ?_) ?_ ?_ ?_ ?_ ?_ ?_ ?_ ?_
        rotate_left 2
        · simp only [gA, gB, gC]; rfl
        · kernel_rfl
        · kernel_rfl
        · kernel_rfl
        · exact fun _ _ _ h => h
        · refine Or.inl ⟨by rfl, ?_⟩; intro w hSw; (try dsimp only at hSw); go_simp; (try with_reducible rfl)
        · assumption
        try simp only [Act.put, sA, sB, sC]
        refine wpAnyH_take (i := 1) (oi := ?_) (v := ?_) ?_ ?_ ?_ ?_ ?_ ?_ ?_ ?_
        rotate_left 2
        · simp only [gA, gB, gC]; rfl
        · kernel_rfl
        · kernel_rfl
        · kernel_rfl
        · exact fun _ _ _ h => h
        · refine Or.inl ⟨by rfl, ?_⟩; intro w hSw; (try dsimp only at hSw); go_simp; (try with_reducible rfl)
        · assumption
        try simp only [Act.put, sA, sB, sC]
        refine wpAnyH_take (i := 2) (oi := ?_) (v := ?_) ?_ ?_ ?_ ?_ ?_ ?_ ?_ ?_
        rotate_left 2
        · simp only [gA, gB, gC]; rfl
        · kernel_rfl
        · kernel_rfl
        · kernel_rfl
        · exact fun _ _ _ h => h
        · refine Or.inl ⟨by rfl, ?_⟩; intro w hSw; (try dsimp only at hSw); go_simp; (try with_reducible rfl)
        · assumption
        try simp only [Act.put, sA, sB, sC]
        refine wpAnyH_take (i := 3) (oi := ?_) (v := undef) ?_ ?_ ?_ ?_ ?_ ?_ ?_ ?_
        rotate_left
        · simp only [gA, gB, gC]; rfl
        · kernel_rfl
        · kernel_rfl
        · kernel_rfl
        · exact fun _ _ _ h => h
        · exact Or.inr ⟨by rfl, rfl⟩
        · assumption
        try simp only [Act.put, sA, sB, sC]
        refine wpAnyH_take (i := 4) (oi := ?_) (v := undef) ?_ ?_ ?_ ?_ ?_ ?_ ?_ ?_
        rotate_left
        · simp only [gA, gB, gC]; rfl
        · kernel_rfl
        · kernel_rfl
        · kernel_rfl
        · exact fun _ _ _ h => h
        · exact Or.inr ⟨by rfl, rfl⟩
        · assumption
        try simp only [Act.put, sA, sB, sC]
        refine wpAnyH_take (i := 5) (oi := ?_) (v := undef) ?_ ?_ ?_ ?_ ?_ ?_ ?_ ?_
        rotate_left
        · simp only [gA, gB, gC]; rfl
        · kernel_rfl
        · kernel_rfl
        · kernel_rfl
        · exact fun _ _ _ h => h
        · exact Or.inr ⟨by rfl, rfl⟩
        · assumption
        try simp only [Act.put, sA, sB, sC]
        refine wpAnyH_take (i := 6) (oi := ?_) (v := undef) ?_ ?_ ?_ ?_ ?_ ?_ ?_ ?_
        rotate_left
        · simp only [gA, gB, gC]; rfl
        · kernel_rfl
        · kernel_rfl
        · kernel_rfl
        · exact fun _ _ _ h => h
        · exact Or.inr ⟨by rfl, rfl⟩
        · assumption
        try simp only [Act.put, sA, sB, sC]
        refine wpAnyH_take (i := 7) (oi := ?_) (v := undef) ?_ ?_ ?_ ?_ ?_ ?_ ?_ ?_
        rotate_left
        · simp only [gA, gB, gC]; rfl
        · kernel_rfl
        · kernel_rfl
        · kernel_rfl
        · exact fun _ _ _ h => h
        · exact Or.inr ⟨by rfl, rfl⟩
        · assumption
        try simp only [Act.put, sA, sB, sC]
        refine wpAnyH_take (i := 8) (oi := ?_) (v := undef) ?_ ?_ ?_ ?_ ?_ ?_ ?_ ?_
        rotate_left
        · simp only [gA, gB, gC]; rfl
        · kernel_rfl
        · kernel_rfl
        · kernel_rfl
        · exact fun _ _ _ h => h
        · exact Or.inr ⟨by rfl, rfl⟩
        · assumption
        try simp only [Act.put, sA, sB, sC]
        refine wpAnyH_take (i := 9) (oi := ?_) (v := undef) ?_ ?_ ?_ ?_ ?_ ?_ ?_ ?_
        rotate_left
        · simp only [gA, gB, gC]; rfl
        · kernel_rfl
        · kernel_rfl
        · kernel_rfl
        · exact fun _ _ _ h => h
        · exact Or.inr ⟨by rfl, rfl⟩
        · assumption
        try simp only [Act.put, sA, sB, sC]
        refine wpAnyH_take (i := 10) (oi := ?_) (v := ?_) ?_ ?_ ?_ ?_ ?_ ?_ ?_ ?_
        rotate_left 2
        · simp only [gA, gB, gC]; rfl
        · kernel_rfl
        · kernel_rfl
        · kernel_rfl
        · exact fun _ _ _ h => h
        · refine Or.inl ⟨by rfl, ?_⟩; intro w hSw; (try dsimp only at hSw); go_simp; (try with_reducible rfl)
        · assumption
        try simp only [Act.put, sA, sB, sC]
        refine wpAnyH_done (by kernel_rfl) ?_ _
        go_wp2_with fail
        go_ret
        exact ⟨ret_bool HF.out.symm, ((HX0.out.trans X3.out).trans XE.out).trans hk2⟩
      | some r =>
        obtain ⟨r1, r2⟩ := r
        rw [show optR (some (r1, r2)) = ((r1, r2), true) from rfl] at HD
        go_wp2_with fail
        refine HD.out.mono ?_
        rintro e w3 ⟨rfl, hx3⟩
        replace hdc := hx3.cellSome hdc
        have X3 := Lib.hid (X2.out.trans hx3)
        clear hx3
        obtain ⟨E, hE⟩ : ∃ E, E = w3.alloc (.cells #[.int .i64 r1, .int .i64 r2] 85) := ⟨_, rfl⟩
        have hxE : Ext w3 E := by rw [hE]; exact Ext.alloc _ _
        have XE := Lib.hid (X3.out.trans hxE)
        have e0 := hxE.cellSome hdc
        have b0 : E.cell? ⟨w3.heap.size, 0, none⟩ = some (.int .i64 r1) := by rw [hE]; simp
        have b1 : E.cell? ⟨w3.heap.size, 1, none⟩ = some (.int .i64 r2) := by rw [hE]; simp
        go_upto_region 5 with fail
        rw [← hE]
        clear hE hdc hxE
        have hkd : (k : Int) < (dn : Int) := by omega
        have hk0 : (0 : Int) ≤ (k : Int) := by omega
        have hk2 : Ext E E.drew := Ext.drew E
        have HKEEP := Lib.hid (fun (w' : World) (h : Ext E w') => (⟨h.cellSome e0, h.cellSome b0, h.cellSome b1, h⟩ : w'.cell? ⟨db, doff + k, none⟩ = some (.int .i64 d) ∧ w'.cell? ⟨w3.heap.size, 0, none⟩ = some (.int .i64 r1) ∧ w'.cell? ⟨w3.heap.size, 1, none⟩ = some (.int .i64 r2) ∧ Ext E w'))
        have HG2 := Lib.hid (show giveF A X D k = ((r1 == d) && (r2 == 1)) by rw [HG.out, Bool.eq_iff_iff]; simp)
        cases hx1 : (r1 == d)
        all_goals
          cases hy1 : (r2 == 1)
        all_goals
          have HG3 := Lib.hid HG2.out
          rw [hx1, hy1] at HG3
          go_region_held3 (fun w' => w'.cell? ⟨db, doff + k, none⟩ = some (.int .i64 d) ∧ w'.cell? ⟨w3.heap.size, 0, none⟩ = some (.int .i64 r1) ∧ w'.cell? ⟨w3.heap.size, 1, none⟩ = some (.int .i64 r2) ∧ Ext E w')
            (first
              | with_reducible exact HKEEP.out _ hk2)
            (first
              | (go_at_call 87
                 (with_reducible refine (i_whole _ _).mono ?_)
                 rintro e w5 ⟨rfl, hx5⟩
                 have hk2 : Ext E w5 := hk2.trans hx5)
              | fail)
          have X5 := Lib.hid (XE.out.trans hk2)
          clear hk2
        all_goals try (
          have HF := Lib.hid (show givesB A X D = false by rw [HE.out]; exact allR_false hlt (by rw [HG3.out]; rfl))
          go_wp2_with fail
          go_ret
          exact ⟨ret_bool HF.out.symm, HX0.out.trans X5.out⟩)
        have HT := Lib.hid (show (List.range (k + 1)).all (giveF A X D) = true by rw [allR_succ, HA.out, HG3.out]; rfl)
        go_wp2_with fail
        go_roundg (g1 - 1)
        case measure => have := HK.out; omega
        case rel => exact ⟨k + 1, Lib.hid (by have := HK.out; omega), by go_num, HT, X5⟩
    · have hkn : na = k := by have := HK.out; omega
      subst hkn
      go_wp2_with fail
      go_ret
      exact ⟨ret_bool (by rw [HE.out, HA.out]), HX0.out.trans HX.out⟩
end Go.Proofs.YtgohdmnbnhehnaaGreat
