import Derived.Test.YtgohdmnbnhehnaaGreatBalAllG12
namespace Go.Proofs.YtgohdmnbnhehnaaGreat
set_option linter.unusedVariables false
set_option linter.unusedSimpArgs false
set_option maxRecDepth 100000
open Go.RowKit
def noO (x : Option (Int × Int)) : Bool := match x with | none => false | some v => decide (v.1 ≤ 0)
def posO (x : Option (Int × Int)) : Bool := match x with | none => false | some v => decide (0 < v.1)
def negO (x : Option (Int × Int)) : Bool := match x with | none => false | some v => decide (v.1 < 0)
def noF (A : List (List Int)) (Y : List (Int × Int)) (j : Nat) : Bool := noO (dotL Y (wholeL (colL A j)))
theorem proofNo_eq (A : List (List Int)) (B : List Int) (n : Nat) (Y : List (Int × Int)) : proofNo A B n Y = ((List.range n).all (noF A Y) && posO (dotL Y (wholeL B))) := rfl
theorem rayB_eq (A : List (List Int)) (B : List Int) (C : List (Int × Int)) (ray : List (Int × Int)) : rayB A B C ray = ((decide (ray.length = C.length) && posV ray) && (givesB A ray (List.replicate B.length 0) && negO (dotL C ray))) := by
  unfold rayB; rw [Bool.and_assoc]; rfl
section
variable {w : World} {a : Option Addr} {na ca : Nat} {b : Option Addr} {nb cb : Nat} {c : Option Addr} {nc cc : Nat} {A : List (List Int)} {B : List Int} {C : List (Int × Int)}
  {xa : Option Addr} {xn xc : Nat} {ya : Option Addr} {yn yc : Nat} {ra : Option Addr} {rn rc : Nat} {r : LpR}
set_option maxHeartbeats 16000000 in
theorem i_CheckLP2 (h : LpC w a na ca b nb cb c nc cc A B C) (h' : LrC w xa xn xc ya yn yc ra rn rc r) (ok : okLP A B C = true) (hs : r.status = 2) :
    Calls Tryz.prog 137 #[lpW a na ca b nb cb c nc cc, lrW r xa xn xc ya yn yc ra rn rc] w fun e w' => e = .returned (.bool (checkG boundI A B C r)) ∧ Ext w w' := by
  obtain ⟨r1, r2, r3, r4, r5, r6⟩ := okLP_rows h ok
  subst r3
  have T0 := Lib.hid (show Two w ((w.alloc (lpBox a nb ca b nb cb c nc cc)).alloc (lrBox r xa xn xc ya yn yc ra rn rc)) a nb ca b nb cb c nc cc xa xn xc ya yn yc ra rn rc r A B C from ⟨Ext.refl _, (h.ext (Ext.alloc _ _)).ext (Ext.alloc _ _), (h'.ext (Ext.alloc _ _)).ext (Ext.alloc _ _)⟩)
  have hy1 := h'.y.hcap
  have hy2 := h'.y.hmax
  have hc1 := h.c.hcap
  have hc2 := h.c.hmax
  have hb1 := h.b.hcap
  have hb2 := h.b.hmax
  have HLC := Lib.hid h.c.hlen
  have HLB := Lib.hid h.b.hlen
  have HLA := Lib.hid h.a.hlen
  have HLY := Lib.hid h'.y.hlen
  have HE := Lib.hid (show checkG boundI A B C r = (decide (r.Y.length = B.length) && proofNo A B C.length r.Y) by unfold checkG; rw [if_neg (by omega), if_pos hs])
  have HR4 := Lib.hid r4
  have HCS := Lib.hid (fun j => colL_small (A := A) (fun i hi => (r5 i (by have := h.a.hlen; omega)).2) j)
  have HBS := Lib.hid r6
  obtain ⟨st, rX, rY, rr, rv, rp⟩ := r
  obtain ⟨v1, v2⟩ := rv
  simp only at hs HE HLY
  subst hs
  have HV := Lib.hid (i_IsValidLP T0.out.lp)
  rw [ok] at HV
  clear h h' r4 r5 r6
  have HS0 : ((2 : Int) == 1) = false := by decide
  by_cases hyb : yn = nb
  · subst hyb
    have hyy : ((yn : Int) != (yn : Int)) = false := by simp
    have HE2 := Lib.hid (show checkG boundI A B C ⟨2, rX, rY, rr, (v1, v2), rp⟩ = ((List.range nc).all (noF A rY) && posO (dotL rY (wholeL B))) by rw [HE.out, HLY.out, HLB.out, HLC.out, decide_eq_true rfl, proofNo_eq]; rfl)
    go_enter Tryz.func137, Tryz.ntmps137
    go_wp2_with fail
    refine HV.out.mono ?_
    rintro e w1 ⟨rfl, hx⟩
    have T1 := Lib.hid (T0.out.grow hx)
    obtain ⟨p0, p1, p2⟩ := T1.out.p
    obtain ⟨q0, q1, q2, q3, q4, q5⟩ := T1.out.q
    clear hx
    go_wp2_with fail
    go_loopg [123] nc (fun gk ii wr => ∃ k : Nat, Hid (gk + k = nc) ∧ ii = .int .i64 (k : Int) ∧ Hid ((List.range k).all (noF A rY) = true) ∧ Hid (Two w wr a yn ca b yn cb c nc cc xa xn xc ya yn yc ra rn rc ⟨2, rX, rY, rr, (v1, v2), rp⟩ A B C))
    case atStart => exact ⟨0, Lib.hid (by omega), rfl, Lib.hid rfl, T1⟩
    case round =>
      obtain ⟨g1, h_g1⟩ : ∃ x, x = gk := ⟨_, rfl⟩
      subst h_g1
      obtain ⟨wr1, h_wr1⟩ : ∃ x, x = wr := ⟨_, rfl⟩
      subst h_wr1
      obtain ⟨k, HK, rfl, HA, T⟩ := hrel
      clear p0 p1 p2 q0 q1 q2 q3 q4 q5
      by_cases hlt : k < nc
      · go_upto_region 24 with fail
        obtain ⟨p0, p1, p2⟩ := T.out.p
        obtain ⟨q0, q1, q2, q3, q4, q5⟩ := T.out.q
        have HCL := Lib.hid (colL_len A k)
        obtain ⟨dv, hdv⟩ : ∃ d, d = dotL rY (wholeL (colL A k)) := ⟨_, rfl⟩
        have HDV := Lib.hid hdv.symm
        obtain ⟨d1, d2, dok, hdd⟩ : ∃ x y ok, optR dv = ((x, y), ok) := ⟨_, _, _, rfl⟩
        have HDD := Lib.hid hdd
        have HRC := Lib.hid (show ratsL (colL A k) = wholeL (colL A k) from fit_small (HCS.out k))
        have HNF := Lib.hid (show noF A rY k = noO dv by unfold noF; rw [hdv])
        clear hdv hdd
        go_upto_region 24 with fail
        go_cut [16, 17] (fun sx so wx => ∃ g : Nat, sx = .pointer (some ⟨g, 0, none⟩) ∧ so = .bool dok ∧ Hid (Boxed wr1 wx g d1 d2))
        case first =>
          have hk2 : Ext wr1 wr1.drew := Ext.drew wr1
          have hka : Ext wr1 (wr1.alloc (.cells #[.int .i64 0, .int .i64 0] 85)).drew := (Ext.alloc _ _).trans (Ext.drew _)
          have HKEEP := Lib.hid (fun (w' : World) (h : Ext wr1 w') => (⟨h.cellSome p0, h.cellSome p1, h.cellSome p2, h.cellSome q2, h⟩ : w'.cell? ⟨w.heap.size, 0, none⟩ = some (.slice a yn ca) ∧ w'.cell? ⟨w.heap.size, 1, none⟩ = some (.slice b yn cb) ∧ w'.cell? ⟨w.heap.size, 2, none⟩ = some (.slice c nc cc) ∧ w'.cell? ⟨w.heap.size + 1, 2, none⟩ = some (.slice ya yn yc) ∧ Ext wr1 w'))
          go_region_held3 (fun w' => w'.cell? ⟨w.heap.size, 0, none⟩ = some (.slice a yn ca) ∧ w'.cell? ⟨w.heap.size, 1, none⟩ = some (.slice b yn cb) ∧ w'.cell? ⟨w.heap.size, 2, none⟩ = some (.slice c nc cc) ∧ w'.cell? ⟨w.heap.size + 1, 2, none⟩ = some (.slice ya yn yc) ∧ Ext wr1 w')
            (first
              | with_reducible exact HKEEP.out _ hk2
              | with_reducible exact HKEEP.out _ hka
              | with_reducible exact HKEEP.out _ ((hk2.setCell (by first | (simp; done) | (simp; omega)) _).setCell (by first | (simp; done) | (simp; omega)) _)
              | with_reducible exact HKEEP.out _ (hk2.trans (Ext.alloc _ _))
              | with_reducible exact HKEEP.out _ (hBB.put _ _).ext)
            (first
              | (go_at_call 195
                 (with_reducible refine (i_column (b := b) (nb := yn) (cb := cb) (c := c) (nc := nc) (cc := cc) (T.out.lp.a.ext (by first | with_reducible exact hk2 | with_reducible exact hka | with_reducible exact hk2.trans (Ext.alloc _ _))) HR4.out hlt (by omega) (by omega)).mono ?_)
                 rintro e w3 ⟨⟨v3, rfl, ho3⟩, hx_w3⟩
                 obtain ⟨a3, n3, c3, rfl, hn3⟩ := ho3.var
                 first | (with_reducible have hBB := Boxed.grow hBB hx_w3) | (with_reducible have hBB := Boxed.firstD hx_w3) | (with_reducible have hBB := Boxed.laterD hk2 hx_w3) | skip
                 first | (have b0_ := hBB.c0; have b1_ := hBB.c1; have fb_ := hBB.free) | skip
                 have hk2 : Ext wr1 w3 := by first | with_reducible exact hk2.trans hx_w3 | with_reducible exact hka.trans hx_w3 | with_reducible exact (hk2.trans (Ext.alloc _ _)).trans hx_w3
                 have hk2s := hk2.size)
              | (go_at_call 67
                 (with_reducible refine (i_rats (by first | with_reducible exact ho3.ints | with_reducible exact (ho3.ext (Ext.alloc _ _)).ints) (by have := hn3.out; have := HCL.out; have := HLA.out; omega)).mono ?_)
                 rw [HRC.out]
                 rintro e w4 ⟨⟨v4, rfl, ho4⟩, hx_w4⟩
                 obtain ⟨a4, n4, c4, rfl, hn4⟩ := ho4.var
                 first | (with_reducible have hBB := Boxed.grow hBB hx_w4) | (with_reducible have hBB := Boxed.firstD hx_w4) | (with_reducible have hBB := Boxed.laterD hk2 hx_w4) | skip
                 first | (have b0_ := hBB.c0; have b1_ := hBB.c1; have fb_ := hBB.free) | skip
                 have hk2 : Ext wr1 w4 := by first | with_reducible exact hk2.trans hx_w4 | with_reducible exact hka.trans hx_w4 | with_reducible exact (hk2.trans (Ext.alloc _ _)).trans hx_w4
                 have hk2s := hk2.size)
              | (go_at_call 194
                 (with_reducible refine (i_DotRat (T.out.lr.y.ext (by first | with_reducible exact hk2 | with_reducible exact hka | with_reducible exact hk2.trans (Ext.alloc _ _))) (by first | with_reducible exact ho4.rats | with_reducible exact (ho4.ext (Ext.alloc _ _)).rats)).mono ?_)
                 rw [HDV.out, HDD.out]
                 rintro e w5 ⟨rfl, hx_w5⟩
                 first | (with_reducible have hBB := Boxed.grow hBB hx_w5) | (with_reducible have hBB := Boxed.firstD hx_w5) | (with_reducible have hBB := Boxed.laterD hk2 hx_w5) | skip
                 first | (have b0_ := hBB.c0; have b1_ := hBB.c1; have fb_ := hBB.free) | skip
                 have hk2 : Ext wr1 w5 := by first | with_reducible exact hk2.trans hx_w5 | with_reducible exact hka.trans hx_w5 | with_reducible exact (hk2.trans (Ext.alloc _ _)).trans hx_w5
                 have hk2s := hk2.size)
              | fail)
          all_goals (go_wp2_with fail; go_meet; first | exact ⟨_, rfl, rfl, Lib.hid (hBB.put _ _)⟩ | exact ⟨_, rfl, rfl, Lib.hid (Boxed.new hk2 _ _)⟩ | exact ⟨_, rfl, rfl, Lib.hid (Boxed.new' hk2 _ _ (by simp))⟩)
        obtain ⟨g, rfl, rfl, HB1⟩ := hcut
        have TW := Lib.hid (T.out.grow HB1.out.ext)
        clear p0 p1 p2 q0 q1 q2 q3 q4 q5
        have g0 := HB1.out.c0
        cases dv with
        | none =>
          have hdk : dok = false := by have := HDD.out; simp only [optR] at this; simpa using (congrArg Prod.snd this).symm
          subst hdk
          have HF := Lib.hid (show checkG boundI A B C ⟨2, rX, rY, rr, (v1, v2), rp⟩ = false by rw [HE2.out, allR_false hlt (by rw [HNF.out]; rfl)]; rfl)
          go_wp2_with fail
          go_ret
          exact ⟨ret_bool HF.out.symm, TW.out.all⟩
        | some dvv =>
          have hdk : dok = true := by have := HDD.out; simp only [optR] at this; simpa using (congrArg Prod.snd this).symm
          have hdv2 : dvv = (d1, d2) := by have := HDD.out; simp only [optR] at this; simpa using congrArg Prod.fst this
          subst hdk hdv2
          by_cases hl0 : d1 > 0
          · have HF := Lib.hid (show checkG boundI A B C ⟨2, rX, rY, rr, (v1, v2), rp⟩ = false by rw [HE2.out, allR_false hlt (by rw [HNF.out]; exact decide_eq_false (by omega))]; rfl)
            go_wp2_with fail
            go_ret
            exact ⟨ret_bool HF.out.symm, TW.out.all⟩
          · have HT := Lib.hid (show (List.range (k + 1)).all (noF A rY) = true by rw [allR_succ, HA.out, HNF.out, Bool.true_and]; exact decide_eq_true (by omega))
            go_wp2_with fail
            go_roundg (g1 - 1)
            case measure => have := HK.out; omega
            case rel => exact ⟨k + 1, Lib.hid (by have := HK.out; omega), by go_num, HT, TW⟩
      · have hkn : nc = k := by have := HK.out; omega
        subst hkn
        have HE3 := Lib.hid (show checkG boundI A B C ⟨2, rX, rY, rr, (v1, v2), rp⟩ = posO (dotL rY (wholeL B)) by rw [HE2.out, HA.out]; rfl)
        obtain ⟨dy, hdy⟩ : ∃ d, d = dotL rY (wholeL B) := ⟨_, rfl⟩
        rw [← hdy] at HE3
        obtain ⟨y1, y2, yok, hyy2⟩ : ∃ x y ok, optR dy = ((x, y), ok) := ⟨_, _, _, rfl⟩
        have HYY := Lib.hid hyy2
        have HDY := Lib.hid hdy.symm
        have HRB := Lib.hid (show ratsL B = wholeL B from fit_small HBS.out)
        clear hdy hyy2
        go_upto_region 28 with fail
        obtain ⟨p0, p1, p2⟩ := T.out.p
        obtain ⟨q0, q1, q2, q3, q4, q5⟩ := T.out.q
        go_upto_region 28 with fail
        go_cut [18, 19] (fun sx so wx => ∃ g : Nat, sx = .pointer (some ⟨g, 0, none⟩) ∧ so = .bool yok ∧ Hid (Boxed wr1 wx g y1 y2))
        case first =>
          have hk2 : Ext wr1 wr1.drew := Ext.drew wr1
          have hka : Ext wr1 (wr1.alloc (.cells #[.int .i64 0, .int .i64 0] 85)).drew := (Ext.alloc _ _).trans (Ext.drew _)
          have HKEEP := Lib.hid (fun (w' : World) (h : Ext wr1 w') => (⟨h.cellSome p1, h.cellSome q2, h⟩ : w'.cell? ⟨w.heap.size, 1, none⟩ = some (.slice b yn cb) ∧ w'.cell? ⟨w.heap.size + 1, 2, none⟩ = some (.slice ya yn yc) ∧ Ext wr1 w'))
          go_region_held3 (fun w' => w'.cell? ⟨w.heap.size, 1, none⟩ = some (.slice b yn cb) ∧ w'.cell? ⟨w.heap.size + 1, 2, none⟩ = some (.slice ya yn yc) ∧ Ext wr1 w')
            (first
              | with_reducible exact HKEEP.out _ hk2
              | with_reducible exact HKEEP.out _ hka
              | with_reducible exact HKEEP.out _ ((hk2.setCell (by first | (simp; done) | (simp; omega)) _).setCell (by first | (simp; done) | (simp; omega)) _)
              | with_reducible exact HKEEP.out _ (hk2.trans (Ext.alloc _ _))
              | with_reducible exact HKEEP.out _ (hBB.put _ _).ext)
            (first
              | (go_at_call 67
                 (with_reducible refine (i_rats (T.out.lp.b.ext (by first | with_reducible exact hk2 | with_reducible exact hka | with_reducible exact hk2.trans (Ext.alloc _ _))) (by omega)).mono ?_)
                 rw [HRB.out]
                 rintro e w4 ⟨⟨v4, rfl, ho4⟩, hx_w4⟩
                 obtain ⟨a4, n4, c4, rfl, hn4⟩ := ho4.var
                 first | (with_reducible have hBB := Boxed.grow hBB hx_w4) | (with_reducible have hBB := Boxed.firstD hx_w4) | (with_reducible have hBB := Boxed.laterD hk2 hx_w4) | skip
                 first | (have b0_ := hBB.c0; have b1_ := hBB.c1; have fb_ := hBB.free) | skip
                 have hk2 : Ext wr1 w4 := by first | with_reducible exact hk2.trans hx_w4 | with_reducible exact hka.trans hx_w4 | with_reducible exact (hk2.trans (Ext.alloc _ _)).trans hx_w4
                 have hk2s := hk2.size)
              | (go_at_call 194
                 (with_reducible refine (i_DotRat (T.out.lr.y.ext (by first | with_reducible exact hk2 | with_reducible exact hka | with_reducible exact hk2.trans (Ext.alloc _ _))) (by first | with_reducible exact ho4.rats | with_reducible exact (ho4.ext (Ext.alloc _ _)).rats)).mono ?_)
                 rw [HDY.out, HYY.out]
                 rintro e w5 ⟨rfl, hx_w5⟩
                 first | (with_reducible have hBB := Boxed.grow hBB hx_w5) | (with_reducible have hBB := Boxed.firstD hx_w5) | (with_reducible have hBB := Boxed.laterD hk2 hx_w5) | skip
                 first | (have b0_ := hBB.c0; have b1_ := hBB.c1; have fb_ := hBB.free) | skip
                 have hk2 : Ext wr1 w5 := by first | with_reducible exact hk2.trans hx_w5 | with_reducible exact hka.trans hx_w5 | with_reducible exact (hk2.trans (Ext.alloc _ _)).trans hx_w5
                 have hk2s := hk2.size)
              | fail)
          all_goals (go_wp2_with fail; go_meet; first | exact ⟨_, rfl, rfl, Lib.hid (hBB.put _ _)⟩ | exact ⟨_, rfl, rfl, Lib.hid (Boxed.new hk2 _ _)⟩ | exact ⟨_, rfl, rfl, Lib.hid (Boxed.new' hk2 _ _ (by simp))⟩)
        obtain ⟨g, rfl, rfl, HB1⟩ := hcut
        have TW := Lib.hid (T.out.grow HB1.out.ext)
        clear p0 p1 p2 q0 q1 q2 q3 q4 q5
        have g0 := HB1.out.c0
        cases dy with
        | none =>
          have hdk : yok = false := by have := HYY.out; simp only [optR] at this; simpa using (congrArg Prod.snd this).symm
          subst hdk
          go_wp2_with fail
          go_ret
          exact ⟨ret_bool (by rw [HE3.out]; rfl), TW.out.all⟩
        | some yv =>
          have hdk : yok = true := by have := HYY.out; simp only [optR] at this; simpa using (congrArg Prod.snd this).symm
          have hdv2 : yv = (y1, y2) := by have := HYY.out; simp only [optR] at this; simpa using congrArg Prod.fst this
          subst hdk hdv2
          by_cases hy0 : y1 > 0
          · go_wp2_with fail
            go_ret
            exact ⟨ret_bool (by rw [HE3.out]; exact (decide_eq_true hy0).symm), TW.out.all⟩
          · go_wp2_with fail
            go_ret
            exact ⟨ret_bool (by rw [HE3.out]; exact (decide_eq_false (by omega)).symm), TW.out.all⟩
  · have hyy : ((yn : Int) != (nb : Int)) = true := by simp; omega
    have HF := Lib.hid (show checkG boundI A B C ⟨2, rX, rY, rr, (v1, v2), rp⟩ = false by rw [HE.out, HLY.out, HLB.out, decide_eq_false hyb]; rfl)
    go_enter Tryz.func137, Tryz.ntmps137
    go_wp2_with fail
    refine HV.out.mono ?_
    rintro e w1 ⟨rfl, hx⟩
    have T1 := Lib.hid (T0.out.grow hx)
    obtain ⟨p0, p1, p2⟩ := T1.out.p
    obtain ⟨q0, q1, q2, q3, q4, q5⟩ := T1.out.q
    clear hx
    go_wp2_with fail
    go_ret
    exact ⟨ret_bool HF.out.symm, T1.out.all⟩
end
end Go.Proofs.YtgohdmnbnhehnaaGreat
namespace Go.Proofs.YtgohdmnbnhehnaaGreat
set_option linter.unusedVariables false
set_option linter.unusedSimpArgs false
set_option maxRecDepth 100000
open Go.RowKit
section
variable {w : World} {a : Option Addr} {na ca : Nat} {b : Option Addr} {nb cb : Nat} {c : Option Addr} {nc cc : Nat} {A : List (List Int)} {B : List Int} {C : List (Int × Int)}
  {xa : Option Addr} {xn xc : Nat} {ya : Option Addr} {yn yc : Nat} {ra : Option Addr} {rn rc : Nat} {r : LpR}
set_option maxHeartbeats 16000000 in
theorem i_CheckLP3 (h : LpC w a na ca b nb cb c nc cc A B C) (h' : LrC w xa xn xc ya yn yc ra rn rc r) (ok : okLP A B C = true) (hs : r.status = 3) :
    Calls Tryz.prog 137 #[lpW a na ca b nb cb c nc cc, lrW r xa xn xc ya yn yc ra rn rc] w fun e w' => e = .returned (.bool (checkG boundI A B C r)) ∧ Ext w w' := by
  obtain ⟨r1, r2, r3, r4, r5, r6⟩ := okLP_rows h ok
  subst r3
  have T0 := Lib.hid (show Two w ((w.alloc (lpBox a nb ca b nb cb c nc cc)).alloc (lrBox r xa xn xc ya yn yc ra rn rc)) a nb ca b nb cb c nc cc xa xn xc ya yn yc ra rn rc r A B C from ⟨Ext.refl _, (h.ext (Ext.alloc _ _)).ext (Ext.alloc _ _), (h'.ext (Ext.alloc _ _)).ext (Ext.alloc _ _)⟩)
  have hy1 := h'.y.hcap
  have hy2 := h'.y.hmax
  have hc1 := h.c.hcap
  have hc2 := h.c.hmax
  have hb1 := h.b.hcap
  have hb2 := h.b.hmax
  have HLC := Lib.hid h.c.hlen
  have HLB := Lib.hid h.b.hlen
  have HLA := Lib.hid h.a.hlen
  have HLY := Lib.hid h'.y.hlen
  have HE := Lib.hid (show checkG boundI A B C r = (feasB A B C.length r.X && rayB A B C r.ray) by unfold checkG; rw [if_neg (by omega), if_neg (by omega), if_pos hs])
  have HR4 := Lib.hid r4
  have HR5 := Lib.hid r5
  have HCS := Lib.hid (fun j => colL_small (A := A) (fun i hi => (r5 i (by have := h.a.hlen; omega)).2) j)
  have HBS := Lib.hid r6
  obtain ⟨st, rX, rY, rr, rv, rp⟩ := r
  obtain ⟨v1, v2⟩ := rv
  simp only at hs HE HLY
  subst hs
  have HV := Lib.hid (i_IsValidLP T0.out.lp)
  rw [ok] at HV
  clear h h' r4 r5 r6
  have HFB := Lib.hid (fun (W : World) (t : Two w W a nb ca b nb cb c nc cc xa xn xc ya yn yc ra rn rc ⟨3, rX, rY, rr, (v1, v2), rp⟩ A B C) => i_IsFeasible t.lp t.lr.x)
  rw [ok] at HFB
  simp only [Bool.true_and] at HFB
  have HS1 : ((3 : Int) == 1) = false := by decide
  have HS2 : ((3 : Int) == 2) = false := by decide
  cases hf : feasB A B C.length rX
  · rw [hf] at HFB HE
    clear hf
    go_enter Tryz.func137, Tryz.ntmps137
    go_wp2_with fail
    refine HV.out.mono ?_
    rintro e w1 ⟨rfl, hx⟩
    have T1 := Lib.hid (T0.out.grow hx)
    obtain ⟨p0, p1, p2⟩ := T1.out.p
    obtain ⟨q0, q1, q2, q3, q4, q5⟩ := T1.out.q
    clear hx
    go_upto_region 31 with fail
    have hk2 : Ext w1 w1.drew := Ext.drew w1
    refine wp_region_held_drew (S := (fun w' => w'.cell? ⟨w.heap.size, 0, none⟩ = some (.slice a nb ca) ∧ w'.cell? ⟨w.heap.size, 1, none⟩ = some (.slice b nb cb) ∧ w'.cell? ⟨w.heap.size, 2, none⟩ = some (.slice c nc cc) ∧ w'.cell? ⟨w.heap.size + 1, 1, none⟩ = some (.slice xa xn xc) ∧ w'.cell? ⟨w.heap.size + 1, 3, none⟩ = some (.slice ra rn rc) ∧ Ext w1 w')) (by kernel_rfl) ?_ (fun hHeld => ?_)
    · exact ⟨hk2.cellSome p0, hk2.cellSome p1, hk2.cellSome p2, hk2.cellSome q1, hk2.cellSome q3, hk2⟩
    refine wpAnyH_take (i := 0) (oi := ?_) (v := ?_) ?_ ?_ ?_ ?_ ?_ ?_ ?_ ?_
    rotate_left 2
    · simp only [gA, gB, gC]; rfl
    · kernel_rfl
    · kernel_rfl
    · kernel_rfl
    · exact fun _ _ _ h => h
    · refine Or.inl ⟨by rfl, ?_⟩; intro w hSw; (try dsimp only at hSw); go_simp; (try with_reducible rfl)
    · assumption
    try simp only [Act.put, sA, sB, sC]
    refine wpAnyH_take (i := 1) (oi := ?_) (v := ?_) ?_ ?_ ?_ ?_ ?_ ?_ ?_ ?_
    rotate_left 2
    · simp only [gA, gB, gC]; rfl
    · kernel_rfl
    · kernel_rfl
    · kernel_rfl
    · exact fun _ _ _ h => h
    · refine Or.inl ⟨by rfl, ?_⟩; intro w hSw; (try dsimp only at hSw); go_simp; (try with_reducible rfl)
    · assumption
    try simp only [Act.put, sA, sB, sC]
    refine wpAnyH_take (i := 2) (oi := ?_) (v := ?_) ?_ ?_ ?_ ?_ ?_ ?_ ?_ ?_
    rotate_left 2
    · simp only [gA, gB, gC]; rfl
    · kernel_rfl
    · kernel_rfl
    · kernel_rfl
    · exact fun _ _ _ h => h
    · refine Or.inl ⟨by rfl, ?_⟩; intro w hSw; (try dsimp only at hSw); go_simp; (try with_reducible rfl)
    · assumption
    try simp only [Act.put, sA, sB, sC]
    refine wpAnyH_ready (rs := [3]) (by kernel_rfl) (by simp) ?_
    refine AllReadyH.cons (o := ?_) ?_ (fun K hK => ?_) AllReadyH.nil
    rotate_left
    · simp only [gA, gB, gC]; rfl
    go_simp
    (go_at_call 193; refine (HFB.out _ (T1.out.grow hk2)).mono ?_; rintro e w3 ⟨rfl, hx3⟩; have hk2 := hk2.trans hx3)
    go_wp2_with fail
    refine hK.out _ _ ?_ (fun hHeld => ?_)
    · exact ⟨hk2.cellSome p0, hk2.cellSome p1, hk2.cellSome p2, hk2.cellSome q1, hk2.cellSome q3, hk2⟩
    clear hK K
    try simp only [Act.put, sA, sB, sC]
    refine wpAnyH_take (i := 4) (oi := ?_) (v := ?_) ?_ ?_ ?_ ?_ ?_ ?_ ?_ ?_
    rotate_left 2
    · simp only [gA, gB, gC]; rfl
    · kernel_rfl
    · kernel_rfl
    · kernel_rfl
    · exact fun _ _ _ h => h
    · refine Or.inl ⟨by rfl, ?_⟩; intro w hSw; (try dsimp only at hSw); go_simp; (try with_reducible rfl)
    · assumption
    try simp only [Act.put, sA, sB, sC]
    refine wpAnyH_take (i := 5) (oi := ?_) (v := ?_) ?_ ?_ ?_ ?_ ?_ ?_ ?_ ?_
    rotate_left 2
    · simp only [gA, gB, gC]; rfl
    · kernel_rfl
    · kernel_rfl
    · kernel_rfl
    · exact fun _ _ _ h => h
    · refine Or.inl ⟨by rfl, ?_⟩; intro w hSw; (try dsimp only at hSw); go_simp; (try with_reducible rfl)
    · assumption
    try simp only [Act.put, sA, sB, sC]
    refine wpAnyH_take (i := 6) (oi := ?_) (v := undef) ?_ ?_ ?_ ?_ ?_ ?_ ?_ ?_
    rotate_left
    · simp only [gA, gB, gC]; rfl
    · kernel_rfl
    · kernel_rfl
    · kernel_rfl
    · exact fun _ _ _ h => h
    · exact Or.inr ⟨by rfl, rfl⟩
    · assumption
    try simp only [Act.put, sA, sB, sC]
    refine wpAnyH_take (i := 7) (oi := ?_) (v := undef) ?_ ?_ ?_ ?_ ?_ ?_ ?_ ?_
    rotate_left
    · simp only [gA, gB, gC]; rfl
    · kernel_rfl
    · kernel_rfl
    · kernel_rfl
    · exact fun _ _ _ h => h
    · exact Or.inr ⟨by rfl, rfl⟩
    · assumption
    try simp only [Act.put, sA, sB, sC]
    refine wpAnyH_take (i := 8) (oi := ?_) (v := undef) ?_ ?_ ?_ ?_ ?_ ?_ ?_ ?_
    rotate_left
    · simp only [gA, gB, gC]; rfl
    · kernel_rfl
    · kernel_rfl
    · kernel_rfl
    · exact fun _ _ _ h => h
    · exact Or.inr ⟨by rfl, rfl⟩
    · assumption
    try simp only [Act.put, sA, sB, sC]
    refine wpAnyH_take (i := 9) (oi := ?_) (v := undef) ?_ ?_ ?_ ?_ ?_ ?_ ?_ ?_
    rotate_left
    · simp only [gA, gB, gC]; rfl
    · kernel_rfl
    · kernel_rfl
    · kernel_rfl
    · exact fun _ _ _ h => h
    · exact Or.inr ⟨by rfl, rfl⟩
    · assumption
    try simp only [Act.put, sA, sB, sC]
    refine wpAnyH_take (i := 10) (oi := ?_) (v := undef) ?_ ?_ ?_ ?_ ?_ ?_ ?_ ?_
    rotate_left
    · simp only [gA, gB, gC]; rfl
    · kernel_rfl
    · kernel_rfl
    · kernel_rfl
    · exact fun _ _ _ h => h
    · exact Or.inr ⟨by rfl, rfl⟩
    · assumption
    try simp only [Act.put, sA, sB, sC]
    refine wpAnyH_take (i := 11) (oi := ?_) (v := undef) ?_ ?_ ?_ ?_ ?_ ?_ ?_ ?_
    rotate_left
    · simp only [gA, gB, gC]; rfl
    · kernel_rfl
    · kernel_rfl
    · kernel_rfl
    · exact fun _ _ _ h => h
    · exact Or.inr ⟨by rfl, rfl⟩
    · assumption
    try simp only [Act.put, sA, sB, sC]
    refine wpAnyH_take (i := 12) (oi := ?_) (v := undef) ?_ ?_ ?_ ?_ ?_ ?_ ?_ ?_
    rotate_left
    · simp only [gA, gB, gC]; rfl
    · kernel_rfl
    · kernel_rfl
    · kernel_rfl
    · exact fun _ _ _ h => h
    · exact Or.inr ⟨by rfl, rfl⟩
    · assumption
    try simp only [Act.put, sA, sB, sC]
    refine wpAnyH_take (i := 13) (oi := ?_) (v := ?_) ?_ ?_ ?_ ?_ ?_ ?_ ?_ ?_
    rotate_left 2
    · simp only [gA, gB, gC]; rfl
    · kernel_rfl
    · kernel_rfl
    · kernel_rfl
    · exact fun _ _ _ h => h
    · refine Or.inl ⟨by rfl, ?_⟩; intro w hSw; (try dsimp only at hSw); go_simp; (try with_reducible rfl)
    · assumption
    try simp only [Act.put, sA, sB, sC]
    refine wpAnyH_take (i := 14) (oi := ?_) (v := ?_) ?_ ?_ ?_ ?_ ?_ ?_ ?_ ?_
    rotate_left 2
    · simp only [gA, gB, gC]; rfl
    · kernel_rfl
    · kernel_rfl
    · kernel_rfl
    · exact fun _ _ _ h => h
    · refine Or.inl ⟨by rfl, ?_⟩; intro w hSw; (try dsimp only at hSw); go_simp; (try with_reducible rfl)
    · assumption
    try simp only [Act.put, sA, sB, sC]
    refine wpAnyH_take (i := 15) (oi := ?_) (v := undef) ?_ ?_ ?_ ?_ ?_ ?_ ?_ ?_
    rotate_left
    · simp only [gA, gB, gC]; rfl
    · kernel_rfl
    · kernel_rfl
    · kernel_rfl
    · exact fun _ _ _ h => h
    · exact Or.inr ⟨by rfl, rfl⟩
    · assumption
    try simp only [Act.put, sA, sB, sC]
    refine wpAnyH_take (i := 16) (oi := ?_) (v := undef) ?_ ?_ ?_ ?_ ?_ ?_ ?_ ?_
    rotate_left
    · simp only [gA, gB, gC]; rfl
    · kernel_rfl
    · kernel_rfl
    · kernel_rfl
    · exact fun _ _ _ h => h
    · exact Or.inr ⟨by rfl, rfl⟩
    · assumption
    try simp only [Act.put, sA, sB, sC]
    refine wpAnyH_take (i := 17) (oi := ?_) (v := undef) ?_ ?_ ?_ ?_ ?_ ?_ ?_ ?_
    rotate_left
    · simp only [gA, gB, gC]; rfl
    · kernel_rfl
    · kernel_rfl
    · kernel_rfl
    · exact fun _ _ _ h => h
    · exact Or.inr ⟨by rfl, rfl⟩
    · assumption
    try simp only [Act.put, sA, sB, sC]
    refine wpAnyH_take (i := 18) (oi := ?_) (v := undef) ?_ ?_ ?_ ?_ ?_ ?_ ?_ ?_
    rotate_left
    · simp only [gA, gB, gC]; rfl
    · kernel_rfl
    · kernel_rfl
    · kernel_rfl
    · exact fun _ _ _ h => h
    · exact Or.inr ⟨by rfl, rfl⟩
    · assumption
    try simp only [Act.put, sA, sB, sC]
    refine wpAnyH_take (i := 19) (oi := ?_) (v := undef) ?_ ?_ ?_ ?_ ?_ ?_ ?_ ?_
    rotate_left
    · simp only [gA, gB, gC]; rfl
    · kernel_rfl
    · kernel_rfl
    · kernel_rfl
    · exact fun _ _ _ h => h
    · exact Or.inr ⟨by rfl, rfl⟩
    · assumption
    try simp only [Act.put, sA, sB, sC]
    refine wpAnyH_take (i := 20) (oi := ?_) (v := undef) ?_ ?_ ?_ ?_ ?_ ?_ ?_ ?_
    rotate_left
    · simp only [gA, gB, gC]; rfl
    · kernel_rfl
    · kernel_rfl
    · kernel_rfl
    · exact fun _ _ _ h => h
    · exact Or.inr ⟨by rfl, rfl⟩
    · assumption
    try simp only [Act.put, sA, sB, sC]
    refine wpAnyH_take (i := 21) (oi := ?_) (v := undef) ?_ ?_ ?_ ?_ ?_ ?_ ?_ ?_
    rotate_left
    · simp only [gA, gB, gC]; rfl
    · kernel_rfl
    · kernel_rfl
    · kernel_rfl
    · exact fun _ _ _ h => h
    · exact Or.inr ⟨by rfl, rfl⟩
    · assumption
    try simp only [Act.put, sA, sB, sC]
    refine wpAnyH_take (i := 22) (oi := ?_) (v := undef) ?_ ?_ ?_ ?_ ?_ ?_ ?_ ?_
    rotate_left
    · simp only [gA, gB, gC]; rfl
    · kernel_rfl
    · kernel_rfl
    · kernel_rfl
    · exact fun _ _ _ h => h
    · exact Or.inr ⟨by rfl, rfl⟩
    · assumption
    try simp only [Act.put, sA, sB, sC]
    refine wpAnyH_take (i := 23) (oi := ?_) (v := undef) ?_ ?_ ?_ ?_ ?_ ?_ ?_ ?_
    rotate_left
    · simp only [gA, gB, gC]; rfl
    · kernel_rfl
    · kernel_rfl
    · kernel_rfl
    · exact fun _ _ _ h => h
    · exact Or.inr ⟨by rfl, rfl⟩
    · assumption
    try simp only [Act.put, sA, sB, sC]
    refine wpAnyH_take (i := 24) (oi := ?_) (v := ?_) ?_ ?_ ?_ ?_ ?_ ?_ ?_ ?_
    rotate_left 2
    · simp only [gA, gB, gC]; rfl
    · kernel_rfl
    · kernel_rfl
    · kernel_rfl
    · exact fun _ _ _ h => h
    · refine Or.inl ⟨by rfl, ?_⟩; intro w hSw; (try dsimp only at hSw); go_simp; (try with_reducible rfl)
    · assumption
    try simp only [Act.put, sA, sB, sC]
    refine wpAnyH_done (by kernel_rfl) ?_ _
    go_wp2_with fail
    go_ret
    exact ⟨ret_bool (by rw [HE.out]; rfl), (T1.out.grow hk2).all⟩
  · rw [hf] at HFB HE
    clear hf
    have HE2 := Lib.hid (show checkG boundI A B C ⟨3, rX, rY, rr, (v1, v2), rp⟩ = ((decide (rr.length = nc) && posV rr) && (givesB A rr (List.replicate nb 0) && negO (dotL C rr))) by rw [HE.out, rayB_eq, HLC.out, HLB.out, Bool.true_and])
    have HNN := Lib.hid (fun (W : World) (t : Two w W a nb ca b nb cb c nc cc xa xn xc ya yn yc ra rn rc ⟨3, rX, rY, rr, (v1, v2), rp⟩ A B C) => i_notNegative t.lr.ray nc)
    cases hn : (decide (rr.length = nc) && posV rr)
    · rw [hn] at HE2
      simp only [hn] at HNN
      clear hn
      go_enter Tryz.func137, Tryz.ntmps137
      go_wp2_with fail
      refine HV.out.mono ?_
      rintro e w1 ⟨rfl, hx⟩
      have T1 := Lib.hid (T0.out.grow hx)
      obtain ⟨p0, p1, p2⟩ := T1.out.p
      obtain ⟨q0, q1, q2, q3, q4, q5⟩ := T1.out.q
      clear hx
      go_upto_region 31 with fail
      have hk2 : Ext w1 w1.drew := Ext.drew w1
      refine wp_region_held_drew (S := (fun w' => w'.cell? ⟨w.heap.size, 0, none⟩ = some (.slice a nb ca) ∧ w'.cell? ⟨w.heap.size, 1, none⟩ = some (.slice b nb cb) ∧ w'.cell? ⟨w.heap.size, 2, none⟩ = some (.slice c nc cc) ∧ w'.cell? ⟨w.heap.size + 1, 1, none⟩ = some (.slice xa xn xc) ∧ w'.cell? ⟨w.heap.size + 1, 3, none⟩ = some (.slice ra rn rc) ∧ Ext w1 w')) (by kernel_rfl) ?_ (fun hHeld => ?_)
      · exact ⟨hk2.cellSome p0, hk2.cellSome p1, hk2.cellSome p2, hk2.cellSome q1, hk2.cellSome q3, hk2⟩
      refine wpAnyH_take (i := 0) (oi := ?_) (v := ?_) ?_ ?_ ?_ ?_ ?_ ?_ ?_ ?_
      rotate_left 2
      · simp only [gA, gB, gC]; rfl
      · kernel_rfl
      · kernel_rfl
      · kernel_rfl
      · exact fun _ _ _ h => h
      · refine Or.inl ⟨by rfl, ?_⟩; intro w hSw; (try dsimp only at hSw); go_simp; (try with_reducible rfl)
      · assumption
      try simp only [Act.put, sA, sB, sC]
      refine wpAnyH_take (i := 1) (oi := ?_) (v := ?_) ?_ ?_ ?_ ?_ ?_ ?_ ?_ ?_
      rotate_left 2
      · simp only [gA, gB, gC]; rfl
      · kernel_rfl
      · kernel_rfl
      · kernel_rfl
      · exact fun _ _ _ h => h
      · refine Or.inl ⟨by rfl, ?_⟩; intro w hSw; (try dsimp only at hSw); go_simp; (try with_reducible rfl)
      · assumption
      try simp only [Act.put, sA, sB, sC]
      refine wpAnyH_take (i := 2) (oi := ?_) (v := ?_) ?_ ?_ ?_ ?_ ?_ ?_ ?_ ?_
      rotate_left 2
      · simp only [gA, gB, gC]; rfl
      · kernel_rfl
      · kernel_rfl
      · kernel_rfl
      · exact fun _ _ _ h => h
      · refine Or.inl ⟨by rfl, ?_⟩; intro w hSw; (try dsimp only at hSw); go_simp; (try with_reducible rfl)
      · assumption
      try simp only [Act.put, sA, sB, sC]
      refine wpAnyH_ready (rs := [3]) (by kernel_rfl) (by simp) ?_
      refine AllReadyH.cons (o := ?_) ?_ (fun K hK => ?_) AllReadyH.nil
      rotate_left
      · simp only [gA, gB, gC]; rfl
      go_simp
      (go_at_call 193; refine (HFB.out _ (T1.out.grow hk2)).mono ?_; rintro e w3 ⟨rfl, hx3⟩; have hk2 := hk2.trans hx3)
      go_wp2_with fail
      refine hK.out _ _ ?_ (fun hHeld => ?_)
      · exact ⟨hk2.cellSome p0, hk2.cellSome p1, hk2.cellSome p2, hk2.cellSome q1, hk2.cellSome q3, hk2⟩
      clear hK K
      try simp only [Act.put, sA, sB, sC]
      refine wpAnyH_take (i := 4) (oi := ?_) (v := ?_) ?_ ?_ ?_ ?_ ?_ ?_ ?_ ?_
      rotate_left 2
      · simp only [gA, gB, gC]; rfl
      · kernel_rfl
      · kernel_rfl
      · kernel_rfl
      · exact fun _ _ _ h => h
      · refine Or.inl ⟨by rfl, ?_⟩; intro w hSw; (try dsimp only at hSw); go_simp; (try with_reducible rfl)
      · assumption
      try simp only [Act.put, sA, sB, sC]
      refine wpAnyH_take (i := 5) (oi := ?_) (v := ?_) ?_ ?_ ?_ ?_ ?_ ?_ ?_ ?_
      rotate_left 2
      · simp only [gA, gB, gC]; rfl
      · kernel_rfl
      · kernel_rfl
      · kernel_rfl
      · exact fun _ _ _ h => h
      · refine Or.inl ⟨by rfl, ?_⟩; intro w hSw; (try dsimp only at hSw); go_simp; (try with_reducible rfl)
      · assumption
      try simp only [Act.put, sA, sB, sC]
      refine wpAnyH_take (i := 6) (oi := ?_) (v := ?_) ?_ ?_ ?_ ?_ ?_ ?_ ?_ ?_
      rotate_left 2
      · simp only [gA, gB, gC]; rfl
      · kernel_rfl
      · kernel_rfl
      · kernel_rfl
      · exact fun _ _ _ h => h
      · refine Or.inl ⟨by rfl, ?_⟩; intro w hSw; (try dsimp only at hSw); go_simp; (try with_reducible rfl)
      · assumption
      try simp only [Act.put, sA, sB, sC]
      refine wpAnyH_take (i := 7) (oi := ?_) (v := ?_) ?_ ?_ ?_ ?_ ?_ ?_ ?_ ?_
      rotate_left 2
      · simp only [gA, gB, gC]; rfl
      · kernel_rfl
      · kernel_rfl
      · kernel_rfl
      · exact fun _ _ _ h => h
      · refine Or.inl ⟨by rfl, ?_⟩; intro w hSw; (try dsimp only at hSw); go_simp; (try with_reducible rfl)
      · assumption
      try simp only [Act.put, sA, sB, sC]
      refine wpAnyH_take (i := 8) (oi := ?_) (v := ?_) ?_ ?_ ?_ ?_ ?_ ?_ ?_ ?_
      rotate_left 2
      · simp only [gA, gB, gC]; rfl
      · kernel_rfl
      · kernel_rfl
      · kernel_rfl
      · exact fun _ _ _ h => h
      · refine Or.inl ⟨by rfl, ?_⟩; intro w hSw; (try dsimp only at hSw); go_simp; (try with_reducible rfl)
      · assumption
      try simp only [Act.put, sA, sB, sC]
      refine wpAnyH_take (i := 9) (oi := ?_) (v := ?_) ?_ ?_ ?_ ?_ ?_ ?_ ?_ ?_
      rotate_left 2
      · simp only [gA, gB, gC]; rfl
      · kernel_rfl
      · kernel_rfl
      · kernel_rfl
      · exact fun _ _ _ h => h
      · refine Or.inl ⟨by rfl, ?_⟩; intro w hSw; (try dsimp only at hSw); go_simp; (try with_reducible rfl)
      · assumption
      try simp only [Act.put, sA, sB, sC]
      refine wpAnyH_take (i := 10) (oi := ?_) (v := ?_) ?_ ?_ ?_ ?_ ?_ ?_ ?_ ?_
      rotate_left 2
      · simp only [gA, gB, gC]; rfl
      · kernel_rfl
      · kernel_rfl
      · kernel_rfl
      · exact fun _ _ _ h => h
      · refine Or.inl ⟨by rfl, ?_⟩; intro w hSw; (try dsimp only at hSw); go_simp; (try with_reducible rfl)
      · assumption
      try simp only [Act.put, sA, sB, sC]
      refine wpAnyH_ready (rs := [11]) (by kernel_rfl) (by simp) ?_
      refine AllReadyH.cons (o := ?_) ?_ (fun K hK => ?_) AllReadyH.nil
      rotate_left
      · simp only [gA, gB, gC]; rfl
      go_simp
      (go_at_call 196; refine (HNN.out _ (T1.out.grow hk2)).mono ?_; rintro e w4 ⟨rfl, hx4⟩; have hk2 := hk2.trans hx4)
      go_wp2_with fail
      refine hK.out _ _ ?_ (fun hHeld => ?_)
      · exact ⟨hk2.cellSome p0, hk2.cellSome p1, hk2.cellSome p2, hk2.cellSome q1, hk2.cellSome q3, hk2⟩
      clear hK K
      try simp only [Act.put, sA, sB, sC]
      refine wpAnyH_take (i := 12) (oi := ?_) (v := ?_) ?_ ?_ ?_ ?_ ?_ ?_ ?_ ?_
      rotate_left 2
      · simp only [gA, gB, gC]; rfl
      · kernel_rfl
      · kernel_rfl
      · kernel_rfl
      · exact fun _ _ _ h => h
      · refine Or.inl ⟨by rfl, ?_⟩; intro w hSw; (try dsimp only at hSw); go_simp; (try with_reducible rfl)
      · assumption
      try simp only [Act.put, sA, sB, sC]
      refine wpAnyH_take (i := 13) (oi := ?_) (v := ?_) ?_ ?_ ?_ ?_ ?_ ?_ ?_ ?_
      rotate_left 2
      · simp only [gA, gB, gC]; rfl
      · kernel_rfl
      · kernel_rfl
      · kernel_rfl
      · exact fun _ _ _ h => h
      · refine Or.inl ⟨by rfl, ?_⟩; intro w hSw; (try dsimp only at hSw); go_simp; (try with_reducible rfl)
      · assumption
      try simp only [Act.put, sA, sB, sC]
      refine wpAnyH_take (i := 14) (oi := ?_) (v := ?_) ?_ ?_ ?_ ?_ ?_ ?_ ?_ ?_
      rotate_left 2
      · simp only [gA, gB, gC]; rfl
      · kernel_rfl
      · kernel_rfl
      · kernel_rfl
      · exact fun _ _ _ h => h
      · refine Or.inl ⟨by rfl, ?_⟩; intro w hSw; (try dsimp only at hSw); go_simp; (try with_reducible rfl)
      · assumption
      try simp only [Act.put, sA, sB, sC]
      refine wpAnyH_take (i := 15) (oi := ?_) (v := undef) ?_ ?_ ?_ ?_ ?_ ?_ ?_ ?_
      rotate_left
      · simp only [gA, gB, gC]; rfl
      · kernel_rfl
      · kernel_rfl
      · kernel_rfl
      · exact fun _ _ _ h => h
      · exact Or.inr ⟨by rfl, rfl⟩
      · assumption
      try simp only [Act.put, sA, sB, sC]
      refine wpAnyH_take (i := 16) (oi := ?_) (v := undef) ?_ ?_ ?_ ?_ ?_ ?_ ?_ ?_
      rotate_left
      · simp only [gA, gB, gC]; rfl
      · kernel_rfl
      · kernel_rfl
      · kernel_rfl
      · exact fun _ _ _ h => h
      · exact Or.inr ⟨by rfl, rfl⟩
      · assumption
      try simp only [Act.put, sA, sB, sC]
      refine wpAnyH_take (i := 17) (oi := ?_) (v := undef) ?_ ?_ ?_ ?_ ?_ ?_ ?_ ?_
      rotate_left
      · simp only [gA, gB, gC]; rfl
      · kernel_rfl
      · kernel_rfl
      · kernel_rfl
      · exact fun _ _ _ h => h
      · exact Or.inr ⟨by rfl, rfl⟩
      · assumption
      try simp only [Act.put, sA, sB, sC]
      refine wpAnyH_take (i := 18) (oi := ?_) (v := undef) ?_ ?_ ?_ ?_ ?_ ?_ ?_ ?_
      rotate_left
      · simp only [gA, gB, gC]; rfl
      · kernel_rfl
      · kernel_rfl
      · kernel_rfl
      · exact fun _ _ _ h => h
      · exact Or.inr ⟨by rfl, rfl⟩
      · assumption
      try simp only [Act.put, sA, sB, sC]
      refine wpAnyH_take (i := 19) (oi := ?_) (v := undef) ?_ ?_ ?_ ?_ ?_ ?_ ?_ ?_
      rotate_left
      · simp only [gA, gB, gC]; rfl
      · kernel_rfl
      · kernel_rfl
      · kernel_rfl
      · exact fun _ _ _ h => h
      · exact Or.inr ⟨by rfl, rfl⟩
      · assumption
      try simp only [Act.put, sA, sB, sC]
      refine wpAnyH_take (i := 20) (oi := ?_) (v := undef) ?_ ?_ ?_ ?_ ?_ ?_ ?_ ?_
      rotate_left
      · simp only [gA, gB, gC]; rfl
      · kernel_rfl
      · kernel_rfl
      · kernel_rfl
      · exact fun _ _ _ h => h
      · exact Or.inr ⟨by rfl, rfl⟩
      · assumption
      try simp only [Act.put, sA, sB, sC]
      refine wpAnyH_take (i := 21) (oi := ?_) (v := undef) ?_ ?_ ?_ ?_ ?_ ?_ ?_ ?_
      rotate_left
      · simp only [gA, gB, gC]; rfl
      · kernel_rfl
      · kernel_rfl
      · kernel_rfl
      · exact fun _ _ _ h => h
      · exact Or.inr ⟨by rfl, rfl⟩
      · assumption
      try simp only [Act.put, sA, sB, sC]
      refine wpAnyH_take (i := 22) (oi := ?_) (v := undef) ?_ ?_ ?_ ?_ ?_ ?_ ?_ ?_
      rotate_left
      · simp only [gA, gB, gC]; rfl
      · kernel_rfl
      · kernel_rfl
      · kernel_rfl
      · exact fun _ _ _ h => h
      · exact Or.inr ⟨by rfl, rfl⟩
      · assumption
      try simp only [Act.put, sA, sB, sC]
      refine wpAnyH_take (i := 23) (oi := ?_) (v := undef) ?_ ?_ ?_ ?_ ?_ ?_ ?_ ?_
      rotate_left
      · simp only [gA, gB, gC]; rfl
      · kernel_rfl
      · kernel_rfl
      · kernel_rfl
      · exact fun _ _ _ h => h
      · exact Or.inr ⟨by rfl, rfl⟩
      · assumption
      try simp only [Act.put, sA, sB, sC]
      refine wpAnyH_take (i := 24) (oi := ?_) (v := ?_) ?_ ?_ ?_ ?_ ?_ ?_ ?_ ?_
      rotate_left 2
      · simp only [gA, gB, gC]; rfl
      · kernel_rfl
      · kernel_rfl
      · kernel_rfl
      · exact fun _ _ _ h => h
      · refine Or.inl ⟨by rfl, ?_⟩; intro w hSw; (try dsimp only at hSw); go_simp; (try with_reducible rfl)
      · assumption
      try simp only [Act.put, sA, sB, sC]
      refine wpAnyH_done (by kernel_rfl) ?_ _
      go_wp2_with fail
      go_ret
      exact ⟨ret_bool (by rw [HE2.out]; rfl), (T1.out.grow hk2).all⟩
    · rw [hn] at HE2
      simp only [hn] at HNN
      clear hn
      have hmk := mk_ints nb (by omega)
      have HGV := Lib.hid (fun (W : World) (t : Two w W a nb ca b nb cb c nc cc xa xn xc ya yn yc ra rn rc ⟨3, rX, rY, rr, (v1, v2), rp⟩ A B C) => i_gives (b := b) (nb := nb) (cb := cb) (c := c) (nc := nc) (cc := cc) (t.grow (Ext.alloc W (.cells (intCells (List.replicate nb 0)) 3))).lp.a (t.grow (Ext.alloc W (.cells (intCells (List.replicate nb 0)) 3))).lr.ray (Row.ints (show Row (W.alloc (.cells (intCells (List.replicate nb 0)) 3)) W.heap.size 3 (List.replicate nb 0) from heap_alloc_new _ _) (by simp) (Nat.le_refl nb) (by omega)) (Nat.le_refl _) HR5.out)
      obtain ⟨gv, hgv⟩ : ∃ g, g = givesB A rr (List.replicate nb 0) := ⟨_, rfl⟩
      rw [← hgv] at HE2
      simp only [← hgv] at HGV
      clear hgv
      go_enter Tryz.func137, Tryz.ntmps137
      go_wp2_with fail
      refine HV.out.mono ?_
      rintro e w1 ⟨rfl, hx⟩
      have T1 := Lib.hid (T0.out.grow hx)
      obtain ⟨p0, p1, p2⟩ := T1.out.p
      obtain ⟨q0, q1, q2, q3, q4, q5⟩ := T1.out.q
      clear hx
      go_upto_region 31 with fail
      have hk2 : Ext w1 w1.drew := Ext.drew w1
      refine wp_region_held_drew (S := (fun w' => w'.cell? ⟨w.heap.size, 0, none⟩ = some (.slice a nb ca) ∧ w'.cell? ⟨w.heap.size, 1, none⟩ = some (.slice b nb cb) ∧ w'.cell? ⟨w.heap.size, 2, none⟩ = some (.slice c nc cc) ∧ w'.cell? ⟨w.heap.size + 1, 1, none⟩ = some (.slice xa xn xc) ∧ w'.cell? ⟨w.heap.size + 1, 3, none⟩ = some (.slice ra rn rc) ∧ Ext w1 w')) (by kernel_rfl) ?_ (fun hHeld => ?_)
      · exact ⟨hk2.cellSome p0, hk2.cellSome p1, hk2.cellSome p2, hk2.cellSome q1, hk2.cellSome q3, hk2⟩
      refine wpAnyH_take (i := 0) (oi := ?_) (v := ?_) ?_ ?_ ?_ ?_ ?_ ?_ ?_ ?_
      rotate_left 2
      · simp only [gA, gB, gC]; rfl
      · kernel_rfl
      · kernel_rfl
      · kernel_rfl
      · exact fun _ _ _ h => h
      · refine Or.inl ⟨by rfl, ?_⟩; intro w hSw; (try dsimp only at hSw); go_simp; (try with_reducible rfl)
      · assumption
      try simp only [Act.put, sA, sB, sC]
      refine wpAnyH_take (i := 1) (oi := ?_) (v := ?_) ?_ ?_ ?_ ?_ ?_ ?_ ?_ ?_
      rotate_left 2
      · simp only [gA, gB, gC]; rfl
      · kernel_rfl
      · kernel_rfl
      · kernel_rfl
      · exact fun _ _ _ h => h
      · refine Or.inl ⟨by rfl, ?_⟩; intro w hSw; (try dsimp only at hSw); go_simp; (try with_reducible rfl)
      · assumption
      try simp only [Act.put, sA, sB, sC]
      refine wpAnyH_take (i := 2) (oi := ?_) (v := ?_) ?_ ?_ ?_ ?_ ?_ ?_ ?_ ?_
      rotate_left 2
      · simp only [gA, gB, gC]; rfl
      · kernel_rfl
      · kernel_rfl
      · kernel_rfl
      · exact fun _ _ _ h => h
      · refine Or.inl ⟨by rfl, ?_⟩; intro w hSw; (try dsimp only at hSw); go_simp; (try with_reducible rfl)
      · assumption
      try simp only [Act.put, sA, sB, sC]
      refine wpAnyH_ready (rs := [3]) (by kernel_rfl) (by simp) ?_
      refine AllReadyH.cons (o := ?_) ?_ (fun K hK => ?_) AllReadyH.nil
      rotate_left
      · simp only [gA, gB, gC]; rfl
      go_simp
      (go_at_call 193; refine (HFB.out _ (T1.out.grow hk2)).mono ?_; rintro e w3 ⟨rfl, hx3⟩; have hk2 := hk2.trans hx3)
      go_wp2_with fail
      refine hK.out _ _ ?_ (fun hHeld => ?_)
      · exact ⟨hk2.cellSome p0, hk2.cellSome p1, hk2.cellSome p2, hk2.cellSome q1, hk2.cellSome q3, hk2⟩
      clear hK K
      try simp only [Act.put, sA, sB, sC]
      refine wpAnyH_take (i := 4) (oi := ?_) (v := ?_) ?_ ?_ ?_ ?_ ?_ ?_ ?_ ?_
      rotate_left 2
      · simp only [gA, gB, gC]; rfl
      · kernel_rfl
      · kernel_rfl
      · kernel_rfl
      · exact fun _ _ _ h => h
      · refine Or.inl ⟨by rfl, ?_⟩; intro w hSw; (try dsimp only at hSw); go_simp; (try with_reducible rfl)
      · assumption
      try simp only [Act.put, sA, sB, sC]
      refine wpAnyH_take (i := 5) (oi := ?_) (v := ?_) ?_ ?_ ?_ ?_ ?_ ?_ ?_ ?_
      rotate_left 2
      · simp only [gA, gB, gC]; rfl
      · kernel_rfl
      · kernel_rfl
      · kernel_rfl
      · exact fun _ _ _ h => h
      · refine Or.inl ⟨by rfl, ?_⟩; intro w hSw; (try dsimp only at hSw); go_simp; (try with_reducible rfl)
      · assumption
      try simp only [Act.put, sA, sB, sC]
      refine wpAnyH_take (i := 6) (oi := ?_) (v := ?_) ?_ ?_ ?_ ?_ ?_ ?_ ?_ ?_
      rotate_left 2
      · simp only [gA, gB, gC]; rfl
      · kernel_rfl
      · kernel_rfl
      · kernel_rfl
      · exact fun _ _ _ h => h
      · refine Or.inl ⟨by rfl, ?_⟩; intro w hSw; (try dsimp only at hSw); go_simp; (try with_reducible rfl)
      · assumption
      try simp only [Act.put, sA, sB, sC]
      refine wpAnyH_take (i := 7) (oi := ?_) (v := ?_) ?_ ?_ ?_ ?_ ?_ ?_ ?_ ?_
      rotate_left 2
      · simp only [gA, gB, gC]; rfl
      · kernel_rfl
      · kernel_rfl
      · kernel_rfl
      · exact fun _ _ _ h => h
      · refine Or.inl ⟨by rfl, ?_⟩; intro w hSw; (try dsimp only at hSw); go_simp; (try with_reducible rfl)
      · assumption
      try simp only [Act.put, sA, sB, sC]
      refine wpAnyH_take (i := 8) (oi := ?_) (v := ?_) ?_ ?_ ?_ ?_ ?_ ?_ ?_ ?_
      rotate_left 2
      · simp only [gA, gB, gC]; rfl
      · kernel_rfl
      · kernel_rfl
      · kernel_rfl
      · exact fun _ _ _ h => h
      · refine Or.inl ⟨by rfl, ?_⟩; intro w hSw; (try dsimp only at hSw); go_simp; (try with_reducible rfl)
      · assumption
      try simp only [Act.put, sA, sB, sC]
      refine wpAnyH_take (i := 9) (oi := ?_) (v := ?_) ?_ ?_ ?_ ?_ ?_ ?_ ?_ ?_
      rotate_left 2
      · simp only [gA, gB, gC]; rfl
      · kernel_rfl
      · kernel_rfl
      · kernel_rfl
      · exact fun _ _ _ h => h
      · refine Or.inl ⟨by rfl, ?_⟩; intro w hSw; (try dsimp only at hSw); go_simp; (try with_reducible rfl)
      · assumption
      try simp only [Act.put, sA, sB, sC]
      refine wpAnyH_take (i := 10) (oi := ?_) (v := ?_) ?_ ?_ ?_ ?_ ?_ ?_ ?_ ?_
      rotate_left 2
      · simp only [gA, gB, gC]; rfl
      · kernel_rfl
      · kernel_rfl
      · kernel_rfl
      · exact fun _ _ _ h => h
      · refine Or.inl ⟨by rfl, ?_⟩; intro w hSw; (try dsimp only at hSw); go_simp; (try with_reducible rfl)
      · assumption
      try simp only [Act.put, sA, sB, sC]
      refine wpAnyH_ready (rs := [11]) (by kernel_rfl) (by simp) ?_
      refine AllReadyH.cons (o := ?_) ?_ (fun K hK => ?_) AllReadyH.nil
      rotate_left
      · simp only [gA, gB, gC]; rfl
      go_simp
      (go_at_call 196; refine (HNN.out _ (T1.out.grow hk2)).mono ?_; rintro e w4 ⟨rfl, hx4⟩; have hk2 := hk2.trans hx4)
      go_wp2_with fail
      refine hK.out _ _ ?_ (fun hHeld => ?_)
      · exact ⟨hk2.cellSome p0, hk2.cellSome p1, hk2.cellSome p2, hk2.cellSome q1, hk2.cellSome q3, hk2⟩
      clear hK K
      try simp only [Act.put, sA, sB, sC]
      refine wpAnyH_take (i := 12) (oi := ?_) (v := ?_) ?_ ?_ ?_ ?_ ?_ ?_ ?_ ?_
      rotate_left 2
      · simp only [gA, gB, gC]; rfl
      · kernel_rfl
      · kernel_rfl
      · kernel_rfl
      · exact fun _ _ _ h => h
      · refine Or.inl ⟨by rfl, ?_⟩; intro w hSw; (try dsimp only at hSw); go_simp; (try with_reducible rfl)
      · assumption
      try simp only [Act.put, sA, sB, sC]
      refine wpAnyH_take (i := 13) (oi := ?_) (v := ?_) ?_ ?_ ?_ ?_ ?_ ?_ ?_ ?_
      rotate_left 2
      · simp only [gA, gB, gC]; rfl
      · kernel_rfl
      · kernel_rfl
      · kernel_rfl
      · exact fun _ _ _ h => h
      · refine Or.inl ⟨by rfl, ?_⟩; intro w hSw; (try dsimp only at hSw); go_simp; (try with_reducible rfl)
      · assumption
      try simp only [Act.put, sA, sB, sC]
      refine wpAnyH_take (i := 14) (oi := ?_) (v := ?_) ?_ ?_ ?_ ?_ ?_ ?_ ?_ ?_
      rotate_left 2
      · simp only [gA, gB, gC]; rfl
      · kernel_rfl
      · kernel_rfl
      · kernel_rfl
      · exact fun _ _ _ h => h
      · refine Or.inl ⟨by rfl, ?_⟩; intro w hSw; (try dsimp only at hSw); go_simp; (try with_reducible rfl)
      · assumption
      try simp only [Act.put, sA, sB, sC]
      refine wpAnyH_take (i := 15) (oi := ?_) (v := ?_) ?_ ?_ ?_ ?_ ?_ ?_ ?_ ?_
      rotate_left 2
      · simp only [gA, gB, gC]; rfl
      · kernel_rfl
      · kernel_rfl
      · kernel_rfl
      · exact fun _ _ _ h => h
      · refine Or.inl ⟨by rfl, ?_⟩; intro w hSw; (try dsimp only at hSw); go_simp; (try with_reducible rfl)
      · assumption
      try simp only [Act.put, sA, sB, sC]
      refine wpAnyH_take (i := 16) (oi := ?_) (v := ?_) ?_ ?_ ?_ ?_ ?_ ?_ ?_ ?_
      rotate_left 2
      · simp only [gA, gB, gC]; rfl
      · kernel_rfl
      · kernel_rfl
      · kernel_rfl
      · exact fun _ _ _ h => h
      · refine Or.inl ⟨by rfl, ?_⟩; intro w hSw; (try dsimp only at hSw); go_simp; (try with_reducible rfl)
      · assumption
      try simp only [Act.put, sA, sB, sC]
      refine wpAnyH_take (i := 17) (oi := ?_) (v := ?_) ?_ ?_ ?_ ?_ ?_ ?_ ?_ ?_
      rotate_left 2
      · simp only [gA, gB, gC]; rfl
      · kernel_rfl
      · kernel_rfl
      · kernel_rfl
      · exact fun _ _ _ h => h
      · refine Or.inl ⟨by rfl, ?_⟩; intro w hSw; (try dsimp only at hSw); go_simp; (try with_reducible rfl)
      · assumption
      try simp only [Act.put, sA, sB, sC]
      refine wpAnyH_take (i := 18) (oi := ?_) (v := ?_) ?_ ?_ ?_ ?_ ?_ ?_ ?_ ?_
      rotate_left 2
      · simp only [gA, gB, gC]; rfl
      · kernel_rfl
      · kernel_rfl
      · kernel_rfl
      · exact fun _ _ _ h => h
      · refine Or.inl ⟨by rfl, ?_⟩; intro w hSw; (try dsimp only at hSw); go_simp; (try with_reducible rfl)
      · assumption
      try simp only [Act.put, sA, sB, sC]
      refine wpAnyH_take (i := 19) (oi := ?_) (v := ?_) ?_ ?_ ?_ ?_ ?_ ?_ ?_ ?_
      rotate_left 2
      · simp only [gA, gB, gC]; rfl
      · kernel_rfl
      · kernel_rfl
      · kernel_rfl
      · exact fun _ _ _ h => h
      · refine Or.inl ⟨by rfl, ?_⟩; intro w hSw; (try dsimp only at hSw); go_simp; (try with_reducible rfl)
      · assumption
      try simp only [Act.put, sA, sB, sC]
      refine wpAnyH_take (i := 20) (oi := ?_) (v := ?_) ?_ ?_ ?_ ?_ ?_ ?_ ?_ ?_
      rotate_left 2
      · simp only [gA, gB, gC]; rfl
      · kernel_rfl
      · kernel_rfl
      · kernel_rfl
      · exact fun _ _ _ h => h
      · refine Or.inl ⟨by rfl, ?_⟩; intro w hSw; (try dsimp only at hSw); go_simp; (try with_reducible rfl)
      · assumption
      try simp only [Act.put, sA, sB, sC]
      have TG := Lib.hid (T1.out.grow hk2)
      have hk9 := hk2
      have hk2 := hk9.trans (Ext.alloc w4 (.cells (intCells (List.replicate nb 0)) 3))
      refine wpAnyH_ready (rs := [21]) (by kernel_rfl) (by simp) ?_
      refine AllReadyH.cons (o := ?_) ?_ (fun K hK => ?_) AllReadyH.nil
      rotate_left
      · simp only [gA, gB, gC]; rfl
      go_simp
      refine hK.out _ _ ?_ (fun hHeld => ?_)
      · exact ⟨hk2.cellSome p0, hk2.cellSome p1, hk2.cellSome p2, hk2.cellSome q1, hk2.cellSome q3, hk2⟩
      clear hK K
      try simp only [Act.put, sA, sB, sC]
      refine wpAnyH_ready (rs := [22]) (by kernel_rfl) (by simp) ?_
      refine AllReadyH.cons (o := ?_) ?_ (fun K hK => ?_) AllReadyH.nil
      rotate_left
      · simp only [gA, gB, gC]; rfl
      go_simp
      (go_at_call 197; refine (HGV.out _ TG.out).mono ?_; rintro e w5 ⟨rfl, hx5⟩; have hk2 := hk2.trans hx5)
      go_wp2_with fail
      refine hK.out _ _ ?_ (fun hHeld => ?_)
      · exact ⟨hk2.cellSome p0, hk2.cellSome p1, hk2.cellSome p2, hk2.cellSome q1, hk2.cellSome q3, hk2⟩
      clear hK K
      try simp only [Act.put, sA, sB, sC]
      refine wpAnyH_take (i := 23) (oi := ?_) (v := ?_) ?_ ?_ ?_ ?_ ?_ ?_ ?_ ?_
      rotate_left 2
      · simp only [gA, gB, gC]; rfl
      · kernel_rfl
      · kernel_rfl
      · kernel_rfl
      · exact fun _ _ _ h => h
      · refine Or.inl ⟨by rfl, ?_⟩; intro w hSw; (try dsimp only at hSw); go_simp; (try with_reducible rfl)
      · assumption
      try simp only [Act.put, sA, sB, sC]
      refine wpAnyH_take (i := 24) (oi := ?_) (v := ?_) ?_ ?_ ?_ ?_ ?_ ?_ ?_ ?_
      rotate_left 2
      · simp only [gA, gB, gC]; rfl
      · kernel_rfl
      · kernel_rfl
      · kernel_rfl
      · exact fun _ _ _ h => h
      · refine Or.inl ⟨by rfl, ?_⟩; intro w hSw; (try dsimp only at hSw); go_simp; (try with_reducible rfl)
      · assumption
      try simp only [Act.put, sA, sB, sC]
      refine wpAnyH_done (by kernel_rfl) ?_ _
      have TW := Lib.hid (T1.out.grow hk2)
      clear hk2 hk9 p0 p1 p2 q0 q1 q2 q3 q4 q5
      obtain ⟨p0, p1, p2⟩ := TW.out.p
      obtain ⟨q0, q1, q2, q3, q4, q5⟩ := TW.out.q
      cases gv
      · go_wp2_with fail
        go_ret
        exact ⟨ret_bool (by rw [HE2.out]; rfl), TW.out.all⟩
      · obtain ⟨dx, hdx⟩ : ∃ d, d = dotL C rr := ⟨_, rfl⟩
        have HDX := Lib.hid (i_DotRat TW.out.lp.c TW.out.lr.ray)
        have HE3 := Lib.hid (show checkG boundI A B C ⟨3, rX, rY, rr, (v1, v2), rp⟩ = negO dx by rw [HE2.out, hdx]; rfl)
        rw [← hdx] at HDX
        clear hdx
        cases dx with
        | none =>
          rw [show optR none = ((0, 0), false) from rfl] at HDX
          go_wp2_with fail
          refine HDX.out.mono ?_
          rintro e w6 ⟨rfl, hx⟩
          have TX := Lib.hid ((TW.out.grow hx).grow (Ext.alloc _ (.cells #[.int .i64 0, .int .i64 0] 85)))
          clear hx
          go_wp2_with fail
          go_ret
          exact ⟨ret_bool (by rw [HE3.out]; rfl), TX.out.all⟩
        | some v =>
          obtain ⟨x1, x2⟩ := v
          rw [show optR (some (x1, x2)) = ((x1, x2), true) from rfl] at HDX
          go_wp2_with fail
          refine HDX.out.mono ?_
          rintro e w6 ⟨rfl, hx⟩
          have TX := Lib.hid ((TW.out.grow hx).grow (Ext.alloc _ (.cells #[.int .i64 x1, .int .i64 x2] 85)))
          clear hx
          by_cases hx0 : x1 < 0
          · go_wp2_with fail
            go_ret
            exact ⟨ret_bool (by rw [HE3.out]; exact (decide_eq_true hx0).symm), TX.out.all⟩
          · go_wp2_with fail
            go_ret
            exact ⟨ret_bool (by rw [HE3.out]; rfl), TX.out.all⟩
set_option maxHeartbeats 4000000 in
theorem i_CheckLP (h : LpC w a na ca b nb cb c nc cc A B C) (h' : LrC w xa xn xc ya yn yc ra rn rc r) (ok : okLP A B C = true) :
    Calls Tryz.prog 137 #[lpW a na ca b nb cb c nc cc, lrW r xa xn xc ya yn yc ra rn rc] w fun e w' => e = .returned (.bool (checkG boundI A B C r)) ∧ Ext w w' := by
  by_cases h1 : r.status = 1
  · exact i_CheckLP1 h h' ok h1
  by_cases h2 : r.status = 2
  · exact i_CheckLP2 h h' ok h2
  by_cases h3 : r.status = 3
  · exact i_CheckLP3 h h' ok h3
  have HE := Lib.hid (show checkG boundI A B C r = false by unfold checkG; rw [if_neg h1, if_neg h2, if_neg h3])
  have T0 := Lib.hid (show Two w ((w.alloc (lpBox a na ca b nb cb c nc cc)).alloc (lrBox r xa xn xc ya yn yc ra rn rc)) a na ca b nb cb c nc cc xa xn xc ya yn yc ra rn rc r A B C from ⟨Ext.refl _, (h.ext (Ext.alloc _ _)).ext (Ext.alloc _ _), (h'.ext (Ext.alloc _ _)).ext (Ext.alloc _ _)⟩)
  have HV := Lib.hid (i_IsValidLP T0.out.lp)
  rw [ok] at HV
  obtain ⟨st, rX, rY, rr, rv, rp⟩ := r
  obtain ⟨v1, v2⟩ := rv
  simp only at h1 h2 h3
  have e1 : (st == 1) = false := by simp; omega
  have e2 : (st == 2) = false := by simp; omega
  have e3 : (st == 3) = false := by simp; omega
  clear h h' h1 h2 h3
  go_enter Tryz.func137, Tryz.ntmps137
  go_wp2_with fail
  refine HV.out.mono ?_
  rintro e w1 ⟨rfl, hx⟩
  have T1 := Lib.hid (T0.out.grow hx)
  obtain ⟨p0, p1, p2⟩ := T1.out.p
  obtain ⟨q0, q1, q2, q3, q4, q5⟩ := T1.out.q
  clear hx
  go_wp2_with fail
  go_ret
  exact ⟨ret_bool HE.out.symm, T1.out.all⟩
end
end Go.Proofs.YtgohdmnbnhehnaaGreat
namespace Go.Proofs.YtgohdmnbnhehnaaGreat
set_option linter.unusedVariables false
set_option linter.unusedSimpArgs false
set_option maxRecDepth 100000
open Go.RowKit
theorem fitL_small {r : List Int} (h : ∀ x ∈ r, -5000 ≤ x ∧ x ≤ 5000) : fitL r = true := by
  unfold fitL
  rw [List.all_eq_true]
  intro x hx
  have := h x hx
  unfold inB; simp; omega
set_option maxHeartbeats 8000000 in
theorem s_l5Gives {w : World} {a : Option Addr} {na ca : Nat} {b : Option Addr} {nb cb : Nat} {c : Option Addr} {nc cc : Nat} {A : List (List Int)} (h : IntSS w a na ca A) {xa : Option Addr} {xn xcap : Nat} {X : List (Int × Int)} (hX : Rats w xa xn xcap X)
    {da : Option Addr} {dn dcap : Nat} {D : List Int} (hD : Ints w da dn dcap D) (hdn : na ≤ dn) (hrow : ∀ i, i < na → (A[i]?.getD []).length ≤ 70 ∧ ∀ x ∈ A[i]?.getD [], -5000 ≤ x ∧ x ≤ 5000) :
    Calls Tryz.prog 185 #[lpW a na ca b nb cb c nc cc, .slice xa xn xcap, .slice da dn dcap] w fun e w' => e = .returned (.bool (givesB A X D)) ∧ Ext w w' := by
  have hx0 := Ext.alloc w (lpBox a na ca b nb cb c nc cc)
  have HX0 := Lib.hid hx0
  have HI := Lib.hid (h.ext hx0)
  have HXX := Lib.hid (hX.ext hx0)
  have HDD := Lib.hid (hD.ext hx0)
  have HRW := Lib.hid hrow
  have ha1 := h.hcap
  have ha2 := h.hmax
  have hd1 := hD.hcap
  have hd2 := hD.hmax
  have HLA := Lib.hid h.hlen
  have HTB := Lib.hid (show (w.alloc (lpBox a na ca b nb cb c nc cc)).heap[w.heap.size]? = some (.cells #[.slice a na ca, .slice b nb cb, .slice c nc cc] 67 (0, 0)) from heapA_new _ _ _ rfl)
  have HE := Lib.hid (show givesB A X D = (List.range na).all (giveF A X D) by rw [givesB_eq, HLA.out])
  clear h hX hD hx0 hrow
  go_enter Tryz.func185, Tryz.ntmps185
  go_wp2_with fail
  go_loopg [7] na (fun gk ii wr => ∃ k : Nat, Hid (gk + k = na) ∧ ii = .int .i64 (k : Int) ∧ Hid ((List.range k).all (giveF A X D) = true) ∧ Hid (Ext (w.alloc (lpBox a na ca b nb cb c nc cc)) wr))
  case atStart => exact ⟨0, Lib.hid (by omega), rfl, Lib.hid rfl, Lib.hid (Ext.refl _)⟩
  case round =>
    obtain ⟨g1, h_g1⟩ : ∃ x, x = gk := ⟨_, rfl⟩
    subst h_g1
    obtain ⟨wr1, h_wr1⟩ : ∃ x, x = wr := ⟨_, rfl⟩
    subst h_wr1
    obtain ⟨k, HK, rfl, HA, HX⟩ := hrel
    have hsz := HX.out.size
    rw [World.size_alloc] at hsz
    by_cases hlt : k < na
    · obtain ⟨gb, goff, ra, rn, rc, hga, hgc, hrow⟩ := (HI.out.ext HX.out).at hlt
      subst hga
      have hrn : rn ≤ 70 := by rw [← hrow.hlen]; exact (HRW.out k hlt).1
      have p0 := tbox0 (HX.out.blk HTB.out)
      have X2 := HX
      have HD := Lib.hid (s_l5Dot hrow (fitL_small (HRW.out k hlt).2) (by omega) (HXX.out.ext X2.out))
      clear hrow
      obtain ⟨dv, hdv⟩ : ∃ d, d = dotL (wholeL (A[k]?.getD [])) X := ⟨_, rfl⟩
      have HG := Lib.hid (show giveF A X D k = decide (dv = some (D[k]?.getD 0, 1)) by rw [hdv]; rfl)
      rw [← hdv] at HD
      clear hdv
      obtain ⟨db, doff, hda, hdc⟩ := (HDD.out.ext X2.out).at (show k < dn by omega)
      subst hda
      obtain ⟨d, hd⟩ : ∃ d, d = D[k]?.getD 0 := ⟨_, rfl⟩
      rw [← hd] at HG hdc
      clear hd
      cases dv with
      | none =>
        rw [show optR none = ((0, 0), false) from rfl] at HD
        have HF := Lib.hid (show givesB A X D = false by rw [HE.out]; exact allR_false hlt (by rw [HG.out]; rfl))
        go_wp2_with fail
        refine HD.out.mono ?_
        rintro e w3 ⟨rfl, hx3⟩
        have X3 := Lib.hid (X2.out.trans hx3)
        clear hx3 hdc
        obtain ⟨E, hE⟩ : ∃ E, E = w3.alloc (.cells #[.int .i64 0, .int .i64 0] 85) := ⟨_, rfl⟩
        have XE := Lib.hid (show Ext w3 E by rw [hE]; exact Ext.alloc _ _)
        go_upto_region 5 with fail
        rw [← hE]
        clear hE
        have hk2 : Ext E E.drew := Ext.drew E
        refine wp_region_held_drew (S := (fun w' => Ext E w')) (by kernel_rfl) ?_ (fun hHeld => ?_)
        · exact hk2
        refine wpAnyH_take (i := 0) (oi := ?_) (v := ?_) ?_ ?_ ?_ ?_ ?_ ?_ ?_ ?_
        rotate_left 2
        · simp only [gA, gB, gC]; rfl
        · kernel_rfl
        · kernel_rfl
        · kernel_rfl
        · exact fun _ _ _ h => h
        · refine Or.inl ⟨by rfl, ?_⟩; intro w hSw; (try dsimp only at hSw); go_simp; (try with_reducible rfl)
        · assumption
        try simp only [Act.put, sA, sB, sC]
        refine wpAnyH_take (i := 1) (oi := ?_) (v := ?_) ?_ ?_ ?_ ?_ ?_ ?_ ?_ ?_
        rotate_left 2
        · simp only [gA, gB, gC]; rfl
        · kernel_rfl
        · kernel_rfl
        · kernel_rfl
        · exact fun _ _ _ h => h
        · refine Or.inl ⟨by rfl, ?_⟩; intro w hSw; (try dsimp only at hSw); go_simp; (try with_reducible rfl)
        · assumption
        try simp only [Act.put, sA, sB, sC]
        refine wpAnyH_take (i := 2) (oi := ?_) (v := ?_) ?_ ?_ ?_ ?_ ?_ ?_ ?_ ?_
        rotate_left 2
        · simp only [gA, gB, gC]; rfl
        · kernel_rfl
        · kernel_rfl
        · kernel_rfl
        · exact fun _ _ _ h => h
        · refine Or.inl ⟨by rfl, ?_⟩; intro w hSw; (try dsimp only at hSw); go_simp; (try with_reducible rfl)
        · assumption
        try simp only [Act.put, sA, sB, sC]
        refine wpAnyH_take (i := 3) (oi := ?_) (v := undef) ?_ ?_ ?_ ?_ ?_ ?_ ?_ ?_
        rotate_left
        · simp only [gA, gB, gC]; rfl
        · kernel_rfl
        · kernel_rfl
        · kernel_rfl
        · exact fun _ _ _ h => h
        · exact Or.inr ⟨by rfl, rfl⟩
        · assumption
        try simp only [Act.put, sA, sB, sC]
        refine wpAnyH_take (i := 4) (oi := ?_) (v := undef) ?_ ?_ ?_ ?_ ?_ ?_ ?_ ?_
        rotate_left
        · simp only [gA, gB, gC]; rfl
        · kernel_rfl
        · kernel_rfl
        · kernel_rfl
        · exact fun _ _ _ h => h
        · exact Or.inr ⟨by rfl, rfl⟩
        · assumption
        try simp only [Act.put, sA, sB, sC]
        refine wpAnyH_take (i := 5) (oi := ?_) (v := undef) ?_ ?_ ?_ ?_ ?_ ?_ ?_ ?_
        rotate_left
        · simp only [gA, gB, gC]; rfl
        · kernel_rfl
        · kernel_rfl
        · kernel_rfl
        · exact fun _ _ _ h => h
        · exact Or.inr ⟨by rfl, rfl⟩
        · assumption
        try simp only [Act.put, sA, sB, sC]
        refine wpAnyH_take (i := 6) (oi := ?_) (v := undef) ?_ ?_ ?_ ?_ ?_ ?_ ?_ ?_
        rotate_left
        · simp only [gA, gB, gC]; rfl
        · kernel_rfl
        · kernel_rfl
        · kernel_rfl
        · exact fun _ _ _ h => h
        · exact Or.inr ⟨by rfl, rfl⟩
        · assumption
        try simp only [Act.put, sA, sB, sC]
        refine wpAnyH_take (i := 7) (oi := ?_) (v := undef) ?_ ?_ ?_ ?_ ?_ ?_ ?_ ?_
        rotate_left
        · simp only [gA, gB, gC]; rfl
        · kernel_rfl
        · kernel_rfl
        · kernel_rfl
        · exact fun _ _ _ h => h
        · exact Or.inr ⟨by rfl, rfl⟩
        · assumption
        try simp only [Act.put, sA, sB, sC]
        refine wpAnyH_take (i := 8) (oi := ?_) (v := undef) ?_ ?_ ?_ ?_ ?_ ?_ ?_ ?_
        rotate_left
        · simp only [gA, gB, gC]; rfl
        · kernel_rfl
        · kernel_rfl
        · kernel_rfl
        · exact fun _ _ _ h => h
        · exact Or.inr ⟨by rfl, rfl⟩
        · assumption
        try simp only [Act.put, sA, sB, sC]
        refine wpAnyH_take (i := 9) (oi := ?_) (v := undef) ?_ ?_ ?_ ?_ ?_ ?_ ?_ ?_
        rotate_left
        · simp only [gA, gB, gC]; rfl
        · kernel_rfl
        · kernel_rfl
        · kernel_rfl
        · exact fun _ _ _ h => h
        · exact Or.inr ⟨by rfl, rfl⟩
        · assumption
        try simp only [Act.put, sA, sB, sC]
        refine wpAnyH_take (i := 10) (oi := ?_) (v := ?_) ?_ ?_ ?_ ?_ ?_ ?_ ?_ ?_
        rotate_left 2
        · simp only [gA, gB, gC]; rfl
        · kernel_rfl
        · kernel_rfl
        · kernel_rfl
        · exact fun _ _ _ h => h
        · refine Or.inl ⟨by rfl, ?_⟩; intro w hSw; (try dsimp only at hSw); go_simp; (try with_reducible rfl)
        · assumption
        try simp only [Act.put, sA, sB, sC]
        refine wpAnyH_done (by kernel_rfl) ?_ _
        go_wp2_with fail
        go_ret
        exact ⟨ret_bool HF.out.symm, ((HX0.out.trans X3.out).trans XE.out).trans hk2⟩
      | some r =>
        obtain ⟨r1, r2⟩ := r
        rw [show optR (some (r1, r2)) = ((r1, r2), true) from rfl] at HD
        go_wp2_with fail
        refine HD.out.mono ?_
        rintro e w3 ⟨rfl, hx3⟩
        replace hdc := hx3.cellSome hdc
        have X3 := Lib.hid (X2.out.trans hx3)
        clear hx3
        obtain ⟨E, hE⟩ : ∃ E, E = w3.alloc (.cells #[.int .i64 r1, .int .i64 r2] 85) := ⟨_, rfl⟩
        have hxE : Ext w3 E := by rw [hE]; exact Ext.alloc _ _
        have XE := Lib.hid (X3.out.trans hxE)
        have e0 := hxE.cellSome hdc
        have b0 : E.cell? ⟨w3.heap.size, 0, none⟩ = some (.int .i64 r1) := by rw [hE]; simp
        have b1 : E.cell? ⟨w3.heap.size, 1, none⟩ = some (.int .i64 r2) := by rw [hE]; simp
        go_upto_region 5 with fail
        rw [← hE]
        clear hE hdc hxE
        have hkd : (k : Int) < (dn : Int) := by omega
        have hk0 : (0 : Int) ≤ (k : Int) := by omega
        have hk2 : Ext E E.drew := Ext.drew E
        have HKEEP := Lib.hid (fun (w' : World) (h : Ext E w') => (⟨h.cellSome e0, h.cellSome b0, h.cellSome b1, h⟩ : w'.cell? ⟨db, doff + k, none⟩ = some (.int .i64 d) ∧ w'.cell? ⟨w3.heap.size, 0, none⟩ = some (.int .i64 r1) ∧ w'.cell? ⟨w3.heap.size, 1, none⟩ = some (.int .i64 r2) ∧ Ext E w'))
        have HG2 := Lib.hid (show giveF A X D k = ((r1 == d) && (r2 == 1)) by rw [HG.out, Bool.eq_iff_iff]; simp)
        cases hx1 : (r1 == d)
        all_goals
          cases hy1 : (r2 == 1)
        all_goals
          have HG3 := Lib.hid HG2.out
          rw [hx1, hy1] at HG3
          go_region_held3 (fun w' => w'.cell? ⟨db, doff + k, none⟩ = some (.int .i64 d) ∧ w'.cell? ⟨w3.heap.size, 0, none⟩ = some (.int .i64 r1) ∧ w'.cell? ⟨w3.heap.size, 1, none⟩ = some (.int .i64 r2) ∧ Ext E w')
            (first
              | with_reducible exact HKEEP.out _ hk2)
            (first
              | (go_at_call 81
                 (with_reducible refine (s_l3Int _ _).mono ?_)
                 rintro e w5 ⟨rfl, hx5⟩
                 have hk2 : Ext E w5 := hk2.trans hx5)
              | fail)
          have X5 := Lib.hid (XE.out.trans hk2)
          clear hk2
        all_goals try (
          have HF := Lib.hid (show givesB A X D = false by rw [HE.out]; exact allR_false hlt (by rw [HG3.out]; rfl))
          go_wp2_with fail
          go_ret
          exact ⟨ret_bool HF.out.symm, HX0.out.trans X5.out⟩)
        have HT := Lib.hid (show (List.range (k + 1)).all (giveF A X D) = true by rw [allR_succ, HA.out, HG3.out]; rfl)
        go_wp2_with fail
        go_roundg (g1 - 1)
        case measure => have := HK.out; omega
        case rel => exact ⟨k + 1, Lib.hid (by have := HK.out; omega), by go_num, HT, X5⟩
    · have hkn : na = k := by have := HK.out; omega
      subst hkn
      have p0 := tbox0 (HX.out.blk HTB.out)
      go_wp2_with fail
      go_ret
      exact ⟨ret_bool (by rw [HE.out, HA.out]), HX0.out.trans HX.out⟩
end Go.Proofs.YtgohdmnbnhehnaaGreat
