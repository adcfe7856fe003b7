import Derived.Test.YtgohdmnbnhehnaaGreatBalAllG20
import Derived.Test.YtgohdmnbnhehnaaGreatBalAllG13
import Derived.Outline
import Derived.Test.YtgohdmnbnhehnaaGreatBalAllG16
namespace Go.Proofs.YtgohdmnbnhehnaaGreat
set_option linter.unusedVariables false
set_option linter.unusedSimpArgs false
set_option maxRecDepth 100000
open Go.RowKit
theorem map_snoc {α β : Type} (f : α → β) {l : List α} {k : Nat} {d : α} (h : k < l.length) : (l.take k).map f ++ [f (l[k]?.getD d)] = (l.take (k + 1)).map f := by
  rw [List.take_succ_eq_append_getElem h, List.map_append, List.getElem?_eq_getElem h]; rfl
theorem rangeMap_snoc {β : Type} (f : Nat → β) (k : Nat) : (List.range k).map f ++ [f k] = (List.range (k + 1)).map f := by rw [List.range_succ]; simp
theorem unitL_eq (m i : Nat) : unitL m i = (List.range m).map fun k => if k = i then ((1 : Int), (1 : Int)) else (0, 1) := rfl
section
variable {w : World} {a : Option Addr} {na ca : Nat} {b : Option Addr} {nb cb : Nat} {c : Option Addr} {nc cc : Nat} {A : List (List Int)} {B : List Int} {C : List (Int × Int)}
set_option maxHeartbeats 16000000 in
theorem i_StartTableau (h : LpC w a na ca b nb cb c nc cc A B C) (ok : okLP A B C = true) :
    Calls Tryz.prog 188 #[lpW a na ca b nb cb c nc cc] w fun e w' => (∃ va vb vs, e = .returned (.agg #[va, vb, .int .i64 (nc : Int)]) ∧ OwnT w' w.heap.size va vb vs (startT A B nc)) ∧ Ext w w' := by
  obtain ⟨r1, r2, r3, r4, r5, r6⟩ := okLP_rows h ok
  subst r3
  have hx0 := (Ext.alloc w (lpBox a nb ca b nb cb c nc cc)).trans (Ext.alloc _ (.cells #[.slice none 0 0, .slice none 0 0, .int .i64 0] 142))
  obtain ⟨W, hW⟩ : ∃ W, W = (w.alloc (lpBox a nb ca b nb cb c nc cc)).alloc (.cells #[.slice none 0 0, .slice none 0 0, .int .i64 0] 142) := ⟨_, rfl⟩
  rw [← hW] at hx0
  have HX0 := Lib.hid hx0
  have H := Lib.hid (h.ext hx0)
  have HV := Lib.hid (i_IsValidLP H.out)
  rw [ok] at HV
  have HGB := Lib.hid (show W.heap[w.heap.size + 1]? = some (.cells #[.slice none 0 0, .slice none 0 0, .int .i64 0] 142 (0, 0)) by rw [hW]; exact heapA_new _ _ _ (by simp))
  have HTB := Lib.hid (show W.heap[w.heap.size]? = some (.cells #[.slice a nb ca, .slice b nb cb, .slice c nc cc] 67 (0, 0)) by rw [hW, heapA_old _ _ _ (by simp)]; exact heapA_new _ _ _ rfl)
  have HSW := Lib.hid (show W.heap.size = w.heap.size + 1 + 1 by rw [hW]; simp)
  have ha1 := h.a.hcap
  have ha2 := h.a.hmax
  have hb1 := h.b.hcap
  have hb2 := h.b.hmax
  have hc1 := h.c.hcap
  have hc2 := h.c.hmax
  have HLA := Lib.hid h.a.hlen
  have HLB := Lib.hid h.b.hlen
  have HR4 := Lib.hid r4
  have HR5 := Lib.hid r5
  have HR6 := Lib.hid r6
  clear h hx0 ok r4 r5 r6
  go_enter Tryz.func188, Tryz.ntmps188
  go_upto_region 1 with fail
  rw [← hW]
  clear hW
  have p0 := tbox0 HTB.out
  have p1 := tbox1 HTB.out
  have p2 := tbox2 HTB.out
  go_wp2_with fail
  refine HV.out.mono ?_
  rintro e w1 ⟨rfl, hx⟩
  have X1 := Lib.hid hx
  have H1 := Lib.hid (H.out.ext hx)
  clear hx p0 p1 p2
  have P0 := Lib.hid (tbox0 (X1.out.blk HTB.out))
  have P1 := Lib.hid (tbox1 (X1.out.blk HTB.out))
  have P2 := Lib.hid (tbox2 (X1.out.blk HTB.out))
  have p2 := P2.out
  have hs1 : w.heap.size + 1 + 1 ≤ w1.heap.size := by have := X1.out.size; have := HSW.out; omega
  obtain ⟨E, hE⟩ : ∃ E, E = w1.alloc (.cells #[.slice none 0 0, .slice none 0 0, .int .i64 (nc : Int)] 142) := ⟨_, rfl⟩
  have XE := Lib.hid (show Ext w1 E by rw [hE]; exact Ext.alloc _ _)
  have HT0 := Lib.hid (show TbO E w1.heap.size w1.heap.size (.slice none 0 0) (.slice none 0 0) (nc : Int) [] [] [] by
    rw [hE]; exact ⟨heapA_new _ _ _ rfl, Nat.le_refl _, World.ownsRow_nil _ _ _ 1, RowsR.nil _ _, OwnI.nil _ _⟩)
  go_upto_region 4 with fail
  rw [← hE]
  clear hE p2
  have p0 := XE.out.cellSome P0.out
  go_wp2_with fail
  go_loopg [23] nb (fun gk ii wr => ∃ (k : Nat) (va vb : Value) (vs : List Value), Hid (gk + k = nb) ∧ ii = .int .i64 (k : Int) ∧ Hid (TbO wr w1.heap.size w1.heap.size va vb (nc : Int) vs ((List.range k).map (startRow A B)) ((List.range k).map fun i => ((nc + i : Nat) : Int))) ∧ Hid (Ext w1 wr))
  case atStart => exact ⟨0, _, _, _, Lib.hid (by omega), rfl, HT0, XE⟩
  case round =>
    obtain ⟨g1, h_g1⟩ : ∃ x, x = gk := ⟨_, rfl⟩
    subst h_g1
    obtain ⟨wr1, h_wr1⟩ : ∃ x, x = wr := ⟨_, rfl⟩
    subst h_wr1
    obtain ⟨k, va, vb, vs, HK, rfl, T, HX⟩ := hrel
    clear p0
    have hsr := HX.out.size
    by_cases hlt : k < nb
    · obtain ⟨zb, zoff, ya, yn, yc, hza, hz0, hrow⟩ := (H1.out.ext HX.out).a.at hlt
      subst hza
      obtain rfl : yn = nc := by rw [← hrow.hlen]; exact HR4.out k hlt
      have hy1 := hrow.hcap
      have hy2 := hrow.hmax
      obtain ⟨eb, eoff, hea, he0⟩ := H1.out.b.at hlt
      subst hea
      obtain ⟨bk, hbk⟩ : ∃ x, x = B[k]?.getD 0 := ⟨_, rfl⟩
      rw [← hbk] at he0
      have HE0 := Lib.hid he0
      have HBK := Lib.hid hbk
      have hbb : -5000 ≤ bk ∧ bk ≤ 5000 := by
        rw [hbk, List.getElem?_eq_getElem (by rw [HLB.out]; exact hlt)]; exact HR6.out _ (List.getElem_mem _)
      obtain ⟨hbb0, hbb1⟩ := hbb
      obtain ⟨sd, hsd⟩ : ∃ s, s = sideI bk := ⟨_, rfl⟩
      have HSD := Lib.hid hsd
      have hsd0 : (bk < 0 ∧ sd = -1) ∨ (¬ bk < 0 ∧ sd = 1) := by rw [hsd]; exact sideI_cases bk
      have hsb : -1 ≤ sd ∧ sd ≤ 1 := by omega
      obtain ⟨hsb0, hsb1⟩ := hsb
      have p1 := HX.out.cellSome P1.out
      have he1 := HX.out.cellSome HE0.out
      have HROW := Lib.hid hrow
      clear hrow hbk hsd he0
      go_upto_if 33 with fail
      go_cut [6] (fun s6 wx => s6 = .int .i64 sd ∧ wr1 = wx)
      case first =>
        rcases hsd0 with ⟨hneg, rfl⟩ | ⟨hneg, rfl⟩
        all_goals
          go_wp2_with fail
          go_meet
          exact ⟨rfl, rfl⟩
      obtain ⟨rfl, rfl⟩ := hcut
      clear hsd0
      have HO0 := Lib.hid (OwnR.made wr1 wr1.heap.size (Nat.le_refl _))
      go_wp2_with fail
      go_loopg [7, 37] yn (fun gk oo ii wr => ∃ (j : Nat) (a1 : Option Addr) (n1 q1 : Nat), Hid (gk + j = yn) ∧ ii = .int .i64 (j : Int) ∧ oo = .slice a1 n1 q1 ∧ Hid (OwnR wr wr1.heap.size (.slice a1 n1 q1) (((A[k]?.getD []).take j).map fun x => (sd * x, (1 : Int)))) ∧ Hid (Ext wr1 wr))
      case atStart => exact ⟨0, _, _, _, Lib.hid (by omega), rfl, rfl, HO0, Lib.hid (Ext.alloc _ _)⟩
      case round =>
        obtain ⟨g2, h_g2⟩ : ∃ x, x = gk := ⟨_, rfl⟩
        subst h_g2
        obtain ⟨wr2, h_wr2⟩ : ∃ x, x = wr := ⟨_, rfl⟩
        subst h_wr2
        obtain ⟨j, a1, n1, q1, HJ, rfl, rfl, HO1, HX1⟩ := hrel
        clear p1 he1 hz0
        by_cases hjl : j < yn
        · obtain ⟨xb, xoff, hxa, hx0⟩ := (HROW.out.ext HX1.out).at hjl
          subst hxa
          obtain ⟨x, hx⟩ : ∃ x, x = (A[k]?.getD [])[j]?.getD 0 := ⟨_, rfl⟩
          rw [← hx] at hx0
          have HJL := Lib.hid (show j < (A[k]?.getD []).length by rw [HR4.out k hlt]; exact hjl)
          have hxb : -5000 ≤ x ∧ x ≤ 5000 := by
            rw [hx, List.getElem?_eq_getElem HJL.out]; exact (HR5.out k hlt).2 _ (List.getElem_mem _)
          obtain ⟨hxb0, hxb1⟩ := hxb
          have hm1 : sd * x = x ∨ sd * x = -x ∨ sd * x = 0 := by
            have : sd = -1 ∨ sd = 0 ∨ sd = 1 := by omega
            rcases this with h1 | h1 | h1 <;> subst h1 <;> omega
          have hm2 : -5000 ≤ sd * x ∧ sd * x ≤ 5000 := by rcases hm1 with h1 | h1 | h1 <;> rw [h1] <;> omega
          obtain ⟨z, hz⟩ : ∃ z, z = sd * x := ⟨_, rfl⟩
          have hwz2 : wrap64 (sd * x) = z := by rw [hz]; unfold wrap64; omega
          have HSN := Lib.hid (show ((A[k]?.getD []).take j).map (fun x => (sd * x, (1 : Int))) ++ [(z, 1)] = ((A[k]?.getD []).take (j + 1)).map (fun x => (sd * x, (1 : Int))) by
            rw [hz, hx]; exact map_snoc (fun x => (sd * x, (1 : Int))) HJL.out)
          have HLL := Lib.hid (show (((A[k]?.getD []).take j).map (fun x => (sd * x, (1 : Int)))).length = j by rw [List.length_map, List.length_take]; have := HJL.out; omega)
          clear hx hz hm1 hm2
          go_wp2_with fail
          rw [hwz2]
          clear hwz2
          refine (i_whole z _).mono ?_
          rintro e w3 ⟨rfl, hx⟩
          have X3 := Lib.hid (HX1.out.trans hx)
          have HO3 := Lib.hid (HO1.out.ext hx)
          have hs3 := X3.out.size
          clear hx
          go_wp2_with (first
            | (at_builtin; refine append_rats rfl _ _ rfl wr1.heap.size (.slice a1 n1 q1) _ rfl (HO3.out.ext (Ext.alloc _ _)) _ 1 _ [(z, 1)] rfl (Rats.one' _ _ _ _ _ (by simp)) (by rw [HLL.out]; omega) (by simp; omega) ?_; intro v5 w5 ho hg hnear; have X5 := Lib.hid (ext_grown (X3.out.trans (Ext.alloc _ _)) hg (fun j hj => (HO3.out.lt j hj).1)); obtain ⟨a5, n5, p5, rfl, HN5⟩ := ho.var; have HO5 := Lib.hid ho; clear ho hg hnear))
          go_roundg (g2 - 1)
          case measure => have := HJ.out; omega
          case rel => exact ⟨j + 1, a5, n5, p5, Lib.hid (by have := HJ.out; omega), by go_num, rfl, Lib.hid (by rw [← HSN.out]; exact HO5.out), X5⟩
        · have hjn : yn = j := by have := HJ.out; omega
          have HT2 := Lib.hid (show OwnR wr2 wr1.heap.size (.slice a1 n1 q1) ((A[k]?.getD []).map (fun x => (sd * x, (1 : Int)))) by
            have h1 := HO1.out
            rw [List.take_of_length_le (by rw [HR4.out k hlt]; omega)] at h1; exact h1)
          have HLN := Lib.hid (show ((A[k]?.getD []).map (fun x => (sd * x, (1 : Int)))).length = yn by rw [List.length_map]; exact HR4.out k hlt)
          have p0 := (HX.out.trans HX1.out).cellSome P0.out
          have HJN := Lib.hid hjn
          clear hjn
          go_wp2_with fail
          go_loopg [7, 52] nb (fun gk oo ii wr => ∃ (i : Nat) (a1 : Option Addr) (n1 q1 : Nat), Hid (gk + i = nb) ∧ ii = .int .i64 (i : Int) ∧ oo = .slice a1 n1 q1 ∧ Hid (OwnR wr wr1.heap.size (.slice a1 n1 q1) ((A[k]?.getD []).map (fun x => (sd * x, (1 : Int))) ++ (List.range i).map fun i => if i = k then ((1 : Int), (1 : Int)) else (0, 1))) ∧ Hid (Ext wr1 wr))
          case atStart => exact ⟨0, _, _, _, Lib.hid (by omega), rfl, rfl, Lib.hid (by simpa using HT2.out), HX1⟩
          case round =>
            obtain ⟨g3, h_g3⟩ : ∃ x, x = gk := ⟨_, rfl⟩
            subst h_g3
            obtain ⟨wr3, h_wr3⟩ : ∃ x, x = wr := ⟨_, rfl⟩
            subst h_wr3
            obtain ⟨i, a3, n3, q3, HI, rfl, rfl, HO3, HX3⟩ := hrel
            clear p0
            by_cases hil : i < nb
            · have HLL := Lib.hid (show ((A[k]?.getD []).map (fun x => (sd * x, (1 : Int))) ++ (List.range i).map fun i => if i = k then ((1 : Int), (1 : Int)) else (0, 1)).length = yn + i by rw [List.length_append, HLN.out]; simp)
              obtain ⟨un, hun⟩ : ∃ u : Int, u = if i = k then 1 else 0 := ⟨_, rfl⟩
              have HSN := Lib.hid (show (List.range i).map (fun i => if i = k then ((1 : Int), (1 : Int)) else (0, 1)) ++ [(un, 1)] = (List.range (i + 1)).map fun i => if i = k then ((1 : Int), (1 : Int)) else (0, 1) by
                rw [← rangeMap_snoc, hun]; congr 2; split <;> rfl)
              have hik : ((i : Int) == (k : Int)) = decide (i = k) := by by_cases h : i = k <;> simp [h] <;> omega
              go_upto_if 57 with fail
              go_cut [11] (fun s11 wx => s11 = .int .i64 un ∧ wr3 = wx)
              case first =>
                by_cases hikk : i = k
                · have hu1 : un = 1 := by rw [hun, if_pos hikk]
                  have hd : decide (i = k) = true := decide_eq_true hikk
                  rw [hd]
                  subst hu1
                  clear hun hikk hik hd
                  go_wp2_with fail
                  go_meet
                  exact ⟨rfl, rfl⟩
                · have hu1 : un = 0 := by rw [hun, if_neg hikk]
                  have hd : decide (i = k) = false := decide_eq_false hikk
                  rw [hd]
                  subst hu1
                  clear hun hikk hik hd
                  go_wp2_with fail
                  go_meet
                  exact ⟨rfl, rfl⟩
              obtain ⟨rfl, rfl⟩ := hcut
              clear hun hik
              go_wp2_with fail
              refine (i_whole un _).mono ?_
              rintro e w3 ⟨rfl, hx⟩
              have X3 := Lib.hid (HX3.out.trans hx)
              have HO4 := Lib.hid (HO3.out.ext hx)
              have hs3 := X3.out.size
              clear hx
              go_wp2_with (first
                | (at_builtin; refine append_rats rfl _ _ rfl wr1.heap.size (.slice a3 n3 q3) _ rfl (HO4.out.ext (Ext.alloc _ _)) _ 1 _ [(un, 1)] rfl (Rats.one' _ _ _ _ _ (by simp)) (by rw [HLL.out]; omega) (by simp; omega) ?_; intro v5 w5 ho hg hnear; have X5 := Lib.hid (ext_grown (X3.out.trans (Ext.alloc _ _)) hg (fun j hj => (HO4.out.lt j hj).1)); obtain ⟨a5, n5, p5, rfl, HN5⟩ := ho.var; have HO5 := Lib.hid ho; clear ho hg hnear))
              go_roundg (g3 - 1)
              case measure => have := HI.out; omega
              case rel => exact ⟨i + 1, a5, n5, p5, Lib.hid (by have := HI.out; omega), by go_num, rfl, Lib.hid (by have := HO5.out; rw [List.append_assoc, HSN.out] at this; exact this), X5⟩
            · have hin : i = nb := by have := HI.out; omega
              subst hin
              obtain ⟨z2, hz2⟩ : ∃ z, z = sd * bk := ⟨_, rfl⟩
              have hm1 : sd * bk = bk ∨ sd * bk = -bk ∨ sd * bk = 0 := by
                have : sd = -1 ∨ sd = 0 ∨ sd = 1 := by omega
                rcases this with h1 | h1 | h1 <;> subst h1 <;> omega
              have hwr : IntKind.i64.wrap (sd * bk) = z2 := by
                rw [IntKind.wrap_i64, hz2]; rcases hm1 with h1 | h1 | h1 <;> rw [h1] <;> omega
              have HRE := Lib.hid (show ((A[k]?.getD []).map (fun x => (sd * x, (1 : Int))) ++ (List.range i).map fun i => if i = k then ((1 : Int), (1 : Int)) else (0, 1)) ++ [(z2, 1)] = startRow A B k by
                unfold startRow; rw [← HBK.out, ← HSD.out, hz2, HLA.out, unitL_eq])
              have HLL := Lib.hid (show ((A[k]?.getD []).map (fun x => (sd * x, (1 : Int))) ++ (List.range i).map fun i => if i = k then ((1 : Int), (1 : Int)) else (0, 1)).length = yn + i by rw [List.length_append, HLN.out]; simp)
              have HVL := Lib.hid (show vs.length = k by rw [T.out.rows.len]; simp)
              have t0 := tbox0 T.out.box
              have p1 := HX.out.cellSome P1.out
              have he1 := HX.out.cellSome HE0.out
              have hk0 : (0 : Int) ≤ (k : Int) := by omega
              have hk1 : (k : Int) < (i : Int) := by omega
              clear hz2 hm1
              go_upto_region 24 with fail
              have hk3 : Ext wr3 wr3.drew := Ext.drew wr3
              have hk2 : Ext wr1 wr3.drew := HX3.out.trans hk3
              have HKEEP := Lib.hid (fun (w' : World) (h : Ext wr1 w') => (⟨h.cellSome t0, h.cellSome p1, h.cellSome he1, HX.out.trans h⟩ : w'.cell? ⟨w1.heap.size, 0, none⟩ = some va ∧ w'.cell? ⟨w.heap.size, 1, none⟩ = some (.slice (some ⟨eb, eoff, none⟩) i cb) ∧ w'.cell? ⟨eb, eoff + k, none⟩ = some (.int .i64 bk) ∧ Ext w1 w'))
              refine late_begin (M := [16]) (S := fun w' => w'.cell? ⟨w1.heap.size, 0, none⟩ = some va ∧ w'.cell? ⟨w.heap.size, 1, none⟩ = some (.slice (some ⟨eb, eoff, none⟩) i cb) ∧ w'.cell? ⟨eb, eoff + k, none⟩ = some (.int .i64 bk) ∧ Ext w1 w') (by kernel_rfl) ?_
              have hHeld := HKEEP.out _ hk2
              refine late_pure (i := 0) (oi := ?_) (v := ?_) ?_ ?_ ?_ ?_ ?_ ?_ ?_ ?_ ?_
              rotate_left 2
              · simp only [gA, gB, gC]; rfl
              · kernel_rfl
              · kernel_rfl
              · kernel_rfl
              · kernel_rfl
              · exact fun _ _ _ h => h
              · refine Or.inl ⟨by rfl, ?_⟩; intro w hSw; (try dsimp only at hSw); go_simp; (try with_reducible rfl)
              · assumption
              try simp only [Act.put, sA, sB, sC]
              refine late_load (i := 1) (oi := ?_) (v := ?_) ?_ ?_ ?_ ?_ ?_ ?_ ?_ ?_ ?_ ?_ ?_
              rotate_left 2
              · simp only [gA, gB, gC]; rfl
              · kernel_rfl
              · kernel_rfl
              · kernel_rfl
              · kernel_rfl
              · kernel_rfl
              · kernel_rfl
              · exact fun _ _ _ h => h
              · refine Or.inl ⟨by rfl, ?_⟩; intro w hSw; (try dsimp only at hSw); go_simp; (try with_reducible rfl)
              · assumption
              try simp only [Act.put, sA, sB, sC]
              refine late_pure (i := 2) (oi := ?_) (v := ?_) ?_ ?_ ?_ ?_ ?_ ?_ ?_ ?_ ?_
              rotate_left 2
              · simp only [gA, gB, gC]; rfl
              · kernel_rfl
              · kernel_rfl
              · kernel_rfl
              · kernel_rfl
              · exact fun _ _ _ h => h
              · refine Or.inl ⟨by rfl, ?_⟩; intro w hSw; (try dsimp only at hSw); go_simp; (try with_reducible rfl)
              · assumption
              try simp only [Act.put, sA, sB, sC]
              refine late_pure (i := 3) (oi := ?_) (v := ?_) ?_ ?_ ?_ ?_ ?_ ?_ ?_ ?_ ?_
              rotate_left 2
              · simp only [gA, gB, gC]; rfl
              · kernel_rfl
              · kernel_rfl
              · kernel_rfl
              · kernel_rfl
              · exact fun _ _ _ h => h
              · refine Or.inl ⟨by rfl, ?_⟩; intro w hSw; (try dsimp only at hSw); go_simp; (try with_reducible rfl)
              · assumption
              try simp only [Act.put, sA, sB, sC]
              refine late_pure (i := 4) (oi := ?_) (v := ?_) ?_ ?_ ?_ ?_ ?_ ?_ ?_ ?_ ?_
              rotate_left 2
              · simp only [gA, gB, gC]; rfl
              · kernel_rfl
              · kernel_rfl
              · kernel_rfl
              · kernel_rfl
              · exact fun _ _ _ h => h
              · refine Or.inl ⟨by rfl, ?_⟩; intro w hSw; (try dsimp only at hSw); go_simp; (try with_reducible rfl)
              · assumption
              try simp only [Act.put, sA, sB, sC]
              refine late_load (i := 5) (oi := ?_) (v := ?_) ?_ ?_ ?_ ?_ ?_ ?_ ?_ ?_ ?_ ?_ ?_
              rotate_left 2
              · simp only [gA, gB, gC]; rfl
              · kernel_rfl
              · kernel_rfl
              · kernel_rfl
              · kernel_rfl
              · kernel_rfl
              · kernel_rfl
              · exact fun _ _ _ h => h
              · refine Or.inl ⟨by rfl, ?_⟩; intro w hSw; (try dsimp only at hSw); go_simp; (try with_reducible rfl)
              · assumption
              try simp only [Act.put, sA, sB, sC]
              refine late_pure (i := 6) (oi := ?_) (v := ?_) ?_ ?_ ?_ ?_ ?_ ?_ ?_ ?_ ?_
              rotate_left 2
              · simp only [gA, gB, gC]; rfl
              · kernel_rfl
              · kernel_rfl
              · kernel_rfl
              · kernel_rfl
              · exact fun _ _ _ h => h
              · refine Or.inl ⟨by rfl, ?_⟩; intro w hSw; (try dsimp only at hSw); go_simp; (try with_reducible rfl)
              · assumption
              try simp only [Act.put, sA, sB, sC]
              refine late_pure (i := 7) (oi := ?_) (v := ?_) ?_ ?_ ?_ ?_ ?_ ?_ ?_ ?_ ?_
              rotate_left 2
              · simp only [gA, gB, gC]; rfl
              · kernel_rfl
              · kernel_rfl
              · kernel_rfl
              · kernel_rfl
              · exact fun _ _ _ h => h
              · refine Or.inl ⟨by rfl, ?_⟩; intro w hSw; (try dsimp only at hSw); go_simp; (try with_reducible rfl)
              · assumption
              try simp only [Act.put, sA, sB, sC]
              refine late_load (i := 8) (oi := ?_) (v := ?_) ?_ ?_ ?_ ?_ ?_ ?_ ?_ ?_ ?_ ?_ ?_
              rotate_left 2
              · simp only [gA, gB, gC]; rfl
              · kernel_rfl
              · kernel_rfl
              · kernel_rfl
              · kernel_rfl
              · kernel_rfl
              · kernel_rfl
              · exact fun _ _ _ h => h
              · refine Or.inl ⟨by rfl, ?_⟩; intro w hSw; (try dsimp only at hSw); go_simp; (try with_reducible rfl)
              · assumption
              try simp only [Act.put, sA, sB, sC]
              refine late_pure (i := 9) (oi := ?_) (v := ?_) ?_ ?_ ?_ ?_ ?_ ?_ ?_ ?_ ?_
              rotate_left 2
              · simp only [gA, gB, gC]; rfl
              · kernel_rfl
              · kernel_rfl
              · kernel_rfl
              · kernel_rfl
              · exact fun _ _ _ h => h
              · refine Or.inl ⟨by rfl, ?_⟩; intro w hSw; (try dsimp only at hSw); go_simp; (try with_reducible rfl)
              · assumption
              try simp only [Act.put, sA, sB, sC]
              refine late_step (i := 10) (oi := ?_) ?_ ?_ ?_ (fun K hK => ?_)
              rotate_left
              · simp only [gA, gB, gC]; rfl
              · kernel_rfl
              · kernel_rfl
              go_simp
              go_at_call 87
              refine (i_whole _ _).mono ?_
              rintro e w5 ⟨rfl, hx5⟩
              have hk3 : Ext wr3 w5 := hk3.trans hx5
              have hk2 : Ext wr1 w5 := hk2.trans hx5
              have hs5 := hk2.size
              go_wp2_with fail
              refine hK.out _ _ (fun _ => HKEEP.out _ hk2) ?_
              have hHeld := HKEEP.out _ hk2
              clear hK K
              try simp only [Act.put, sA, sB, sC]
              refine late_step (i := 11) (oi := ?_) ?_ ?_ ?_ (fun K hK => ?_)
              rotate_left
              · simp only [gA, gB, gC]; rfl
              · kernel_rfl
              · kernel_rfl
              go_simp
              refine hK.out _ _ (fun _ => HKEEP.out _ (hk2.trans (Ext.alloc _ _))) ?_
              clear hK K
              try simp only [Act.put, sA, sB, sC]
              refine late_step (i := 12) (oi := ?_) ?_ ?_ ?_ (fun K hK => ?_)
              rotate_left
              · simp only [gA, gB, gC]; rfl
              · kernel_rfl
              · kernel_rfl
              refine wp_append_rats _ _ (by rfl) wr1.heap.size (.slice a3 n3 q3) _ (by rfl) ((HO3.out.ext hk3).ext (Ext.alloc _ _)) _ 1 _ [(z2, 1)] (by rfl) (Rats.one' _ _ _ _ _ rfl) (by rw [HLL.out]; omega) (by simp; omega) ?_
              intro v6 w6 ho hg hnear
              obtain ⟨a6, n6, q6, rfl, HN6⟩ := ho.var
              have HO6 := Lib.hid ho
              have hk6 : Ext wr1 w6 := ext_grown (hk2.trans (Ext.alloc _ _)) hg (fun j hj => (HO3.out.lt j hj).1)
              have hs6 := hk6.size
              clear ho hg hnear
              refine hK.out _ _ (fun _ => HKEEP.out _ hk6) ?_
              have hHeld := HKEEP.out _ hk6
              clear hK K
              try simp only [Act.put, sA, sB, sC]
              refine late_step (i := 13) (oi := ?_) ?_ ?_ ?_ (fun K hK => ?_)
              rotate_left
              · simp only [gA, gB, gC]; rfl
              · kernel_rfl
              · kernel_rfl
              go_simp
              refine hK.out _ _ (fun _ => HKEEP.out _ (hk6.trans (Ext.alloc _ _))) ?_
              clear hK K
              try simp only [Act.put, sA, sB, sC]
              refine late_step (i := 14) (oi := ?_) ?_ ?_ ?_ (fun K hK => ?_)
              rotate_left
              · simp only [gA, gB, gC]; rfl
              · kernel_rfl
              · kernel_rfl
              refine wp_append_ratrow _ _ (by rfl) w1.heap.size va vs (by rfl) ((T.out.a.ext hk6).ext (Ext.alloc _ _)) _ _ 1 (by rfl) (by simp; rfl) rfl (by rw [HVL.out]; omega) (by simp; omega) ?_
              intro v7 w7 ho hg hnear
              obtain ⟨a7, n7, q7, rfl, HN7⟩ := ho.var
              have HO7 := Lib.hid ho
              have HG7 := Lib.hid hg
              have hbx := T.out.boxA (hk6.trans (Ext.alloc _ _)) hg
              have c07 := tbox0 hbx
              have cf7 := tboxf hbx
              have hX7 : Ext w1 w7 := ext_grown ((HX.out.trans hk6).trans (Ext.alloc _ _)) hg (fun j hj => (T.out.a.lt j hj).1)
              clear ho hg hnear hbx
              refine hK.out _ _ (fun _ => And.intro c07 (And.intro (hX7.cellSome P1.out) (And.intro (hX7.cellSome HE0.out) hX7))) ?_
              have hHeld := And.intro c07 (And.intro (hX7.cellSome P1.out) (And.intro (hX7.cellSome HE0.out) hX7))
              clear hK K
              try simp only [Act.put, sA, sB, sC]
              refine late_pure (i := 15) (oi := ?_) (v := ?_) ?_ ?_ ?_ ?_ ?_ ?_ ?_ ?_ ?_
              rotate_left 2
              · simp only [gA, gB, gC]; rfl
              · kernel_rfl
              · kernel_rfl
              · kernel_rfl
              · kernel_rfl
              · exact fun _ _ _ h => h
              · refine Or.inl ⟨by rfl, ?_⟩; intro w hSw; (try dsimp only at hSw); go_simp; (try with_reducible rfl)
              · assumption
              try simp only [Act.put, sA, sB, sC]
              refine late_one (i := 16) (oi := ?_) (w' := ?_) ?_ ?_ ?_ ?_ ?_ ?_ ?_
              rotate_left 2
              · simp only [gA, gB, gC]; rfl
              · kernel_rfl
              · kernel_rfl
              · exact of_decide_eq_true (by kernel_rfl)
              · rfl
              · go_simp; (try with_reducible rfl)
              try simp only [Act.put, sA, sB, sC]
              refine late_done (by kernel_rfl) ?_ _
              have HT8 := Lib.hid (T.out.pushA (hk6.trans (Ext.alloc _ _)) (HO6.out.ext (Ext.alloc _ _)) hsr HG7.out HO7.out)
              have HX8 := Lib.hid (hX7.setCell (p := ⟨w1.heap.size, 0, none⟩) (Nat.le_refl _) (.slice a7 n7 q7))
              obtain ⟨W8, hW8⟩ : ∃ x, x = w7.setCell ⟨w1.heap.size, 0, none⟩ (.slice a7 n7 q7) := ⟨_, rfl⟩
              rw [← hW8] at HT8 HX8
              go_upto_region 25 with fail
              rw [← hW8]
              clear hW8 c07 cf7 hHeld
              have b1 := tbox1 HT8.out.box
              have b2 := tbox2 HT8.out.box
              have bf := tboxf HT8.out.box
              have hl8 := lt_of_block HT8.out.box
              have HVB := Lib.hid (show ((List.range k).map fun i => ((yn + i : Nat) : Int)).length = k by simp)
              go_wp2_with (first
                | (at_builtin; refine append_ints rfl _ _ rfl w1.heap.size vb _ rfl (HT8.out.b.ext (Ext.alloc _ _)) _ 1 _ [(yn : Int) + (k : Int)] rfl (Ints.oneS _ _ _ _ (by simp)) (by rw [HVB.out]; omega) (by simp; omega) ?_; intro v9 w9 ho hg hnear; obtain ⟨a9, n9, q9, rfl, HN9⟩ := ho.var; have HO9 := Lib.hid ho; have HG9 := Lib.hid hg; have hbx := HT8.out.boxB (Ext.alloc _ _) hg; have c09 := tbox1 hbx; have cf9 := tboxf hbx; have hX9 : Ext w1 w9 := ext_grown (Ext.trans HX8.out (Ext.alloc _ _)) hg (fun j hj => (HT8.out.b.lt j hj).1); clear ho hg hnear hbx))
              have HT9 := Lib.hid (HT8.out.pushB (Ext.alloc _ _) HG9.out HO9.out)
              have HXN := Lib.hid (hX9.setCell (p := ⟨w1.heap.size, 1, none⟩) (Nat.le_refl _) (.slice a9 n9 q9))
              go_roundg (g1 - 1)
              case measure => have := HK.out; omega
              case rel => exact ⟨k + 1, _, _, _, Lib.hid (by have := HK.out; omega), by go_num, Lib.hid (by
                have h1 := HT9.out
                rw [HRE.out, rangeMap_snoc] at h1
                have h2 : ((List.range k).map fun i => ((yn + i : Nat) : Int)) ++ [(yn : Int) + (k : Int)] = (List.range (k + 1)).map fun i => ((yn + i : Nat) : Int) := by
                  rw [← rangeMap_snoc]; simp
                rw [h2] at h1
                exact h1), HXN⟩
    · have hkn : nb = k := by have := HK.out; omega
      subst hkn
      have HTN := Lib.hid (show OwnT wr1 w1.heap.size va vb vs (startT A B nc) by have := T.out.own; unfold startT; rw [HLA.out]; exact this)
      have t0 := tbox0 T.out.box
      have t1 := tbox1 T.out.box
      have t2 := tbox2 T.out.box
      obtain ⟨a7, n7, c7, rfl, HN7⟩ := T.out.a.var
      obtain ⟨a8, n8, c8, rfl, HN8⟩ := T.out.b.var
      have xw := X1.out.trans HX.out
      have r0 := tbox0 (xw.blk HGB.out)
      have r1 := tbox1 (xw.blk HGB.out)
      have r2 := tbox2 (xw.blk HGB.out)
      have rf := tboxf (xw.blk HGB.out)
      have XW := Lib.hid xw
      clear xw
      go_wp2_with fail
      refine bodyPost_ret (v := .agg #[.slice a7 n7 c7, .slice a8 n8 c8, .int .i64 (nc : Int)]) (by simp [results, Tryz.results188, go_sem, r0, r1, r2, rf]) rfl ⟨⟨_, _, vs, rfl, ?_⟩, (HX0.out.trans XW.out).set3 (Nat.le_succ _) _ _ _⟩
      exact (HTN.out.keepAll fun k hk => set3_other _ _ _ _ _ _ (by omega)).mono (by omega)
end
end Go.Proofs.YtgohdmnbnhehnaaGreat
namespace Go.Proofs.YtgohdmnbnhehnaaGreat
set_option linter.unusedVariables false
set_option linter.unusedSimpArgs false
open Go.RowKit
theorem driveN_succ (n : Nat) (s : Tb × Nat) (k : Nat) : driveN n s (k + 1) = (driveN n s k).bind fun s' => driveF n s' k := rfl
section
variable {n : Nat} {s : Tb × Nat} {k : Nat} {tt : Tb} {lf : Nat}
theorem drive_stay (h : driveN n s k = some (tt, lf)) (hb : tt.basis[k]?.getD 0 < n) : driveN n s (k + 1) = some (tt, lf) := by
  rw [driveN_succ, h, Option.bind_some]; unfold driveF; rw [if_pos hb]
theorem drive_none (h : driveN n s k = some (tt, lf)) (hb : ¬ tt.basis[k]?.getD 0 < n) (ha : ((tt.row k).take n).all (fun c => !offZ c) = true) : driveN n s (k + 1) = some (tt, lf) := by
  rw [driveN_succ, h, Option.bind_some]; unfold driveF; rw [if_neg hb]; simp only; rw [indexF_none ha, if_pos (by omega)]
theorem drive_piv (h : driveN n s k = some (tt, lf)) (hb : ¬ tt.basis[k]?.getD 0 < n) {j : Nat} (hj : j < n) (hl : j < (tt.row k).length) (h0 : ((tt.row k).take j).all (fun c => !offZ c) = true) (h1 : offZ ((tt.row k)[j]?.getD (0, 0)) = true) (hlf : lf ≤ 1000) :
    driveN n s (k + 1) = (pivS tt (1000 - lf) k j).map fun x => (x.1, 1000 - x.2) := by
  have hi : indexF offZ ((tt.row k).take n) = j := by
    refine indexF_at (d := (0, 0)) (by simp; omega) (by rw [List.take_take, Nat.min_eq_left (by omega)]; exact h0) ?_
    rw [List.getElem?_take_of_lt hj]; exact h1
  rw [driveN_succ, h, Option.bind_some]; unfold driveF; rw [if_neg hb]; simp only; rw [hi, if_neg (by omega)]
  unfold pivS
  cases lf with
  | zero => rw [if_pos (by omega)]; rfl
  | succ f =>
    rw [if_neg (by omega)]
    simp only
    cases pivotT tt k j with
    | none => rfl
    | some t' => simp only [Option.map_some]; congr 2; omega
theorem drive_left (h : driveN n s k = some (tt, lf)) (hb : ¬ tt.basis[k]?.getD 0 < n) {j : Nat} (hj : j < n) (hl : j < (tt.row k).length) (h0 : ((tt.row k).take j).all (fun c => !offZ c) = true) (h1 : offZ ((tt.row k)[j]?.getD (0, 0)) = true) (hlf : lf ≤ 1000) :
    ((driveN n s (k + 1)).map fun x => (x.1, 1000 - x.2)) = pivS tt (1000 - lf) k j := by
  rw [drive_piv h hb hj hl h0 h1 hlf]
  unfold pivS
  split
  · rfl
  · next hn =>
    cases pivotT tt k j with
    | none => rfl
    | some t' => simp only [Option.map_some]; congr 2; omega
theorem driveN_stuck (h : driveN n s k = none) : ∀ {m : Nat}, k ≤ m → driveN n s m = none := by
  intro m hm
  obtain ⟨d, rfl⟩ : ∃ d, m = k + d := ⟨m - k, by omega⟩
  clear hm
  induction d with
  | zero => exact h
  | succ d ih => rw [show k + (d + 1) = (k + d) + 1 by omega, driveN_succ, ih]; rfl
end
theorem Left.more {S : Nat} {a b c : World} {o : Option (Tb × Nat)} (hx : Ext a b) (h : Left S b c o) : Left S a c o := ⟨(Mod.of hx).trans h.1, h.2⟩
theorem offZ_snoc {l : List (Int × Int)} {j : Nat} {p : Int × Int} (hj : j < l.length) (hp : l[j]?.getD (0, 0) = p) (h0 : (l.take j).all (fun c => !offZ c) = true) (h1 : offZ p = false) : (l.take (j + 1)).all (fun c => !offZ c) = true := by
  rw [take_snocR hj, List.all_append, h0, hp]; simp [h1]
theorem offZ_eq (p q : Int) : offZ (p, q) = !((p == 0) && (q == 1)) := by unfold offZ; rw [Bool.eq_iff_iff]; simp
theorem enterT_range (cs : List (Int × Int)) (m : Nat) : enterT cs m = -1 ∨ ∃ j : Nat, enterT cs m = j ∧ j < m := by
  unfold enterT
  split
  · exact Or.inl rfl
  · unfold indexF
    split
    · next i hi =>
      right
      refine ⟨i, rfl, ?_⟩
      have := (List.findIdx?_eq_some_iff_getElem.1 hi).1
      rw [List.length_take] at this
      omega
    · exact Or.inl rfl
theorem phase_col {n m : Nat} {T0 : Nat → Nat → Rat} {cost : List (Int × Int)} : ∀ {f : Nat} {t : Tb} {p : Ph}, TInv n m T0 t → phaseT cost f t = some p → p.col = -1 ∨ ∃ j : Nat, p.col = j ∧ j < n := by
  intro f
  induction f with
  | zero =>
    intro t p ht h
    unfold phaseT at h
    cases hc : costT t cost with
    | none => rw [hc] at h; cases h
    | some cs =>
      rw [hc] at h
      simp only at h
      split at h
      · cases h; exact Or.inl rfl
      · split at h
        · cases h; rw [ht.cols]; exact enterT_range cs n
        · cases h
  | succ f ih =>
    intro t p ht h
    unfold phaseT at h
    cases hc : costT t cost with
    | none => rw [hc] at h; cases h
    | some cs =>
      rw [hc] at h
      simp only at h
      split at h
      · cases h; exact Or.inl rfl
      · split at h
        · cases h; rw [ht.cols]; exact enterT_range cs n
        · cases hp : pivotT t (leaveT t (enterT cs t.cols)) (enterT cs t.cols) with
          | none => rw [hp] at h; cases h
          | some t' => rw [hp] at h; exact ih (pivotT_inv ht hp) h
theorem rayN_yes {t : Tb} {n col k : Nat} (h : t.basis[k]?.getD 0 < n) : rayN t n col (k + 1) = (rayN t n col k).set (t.basis[k]?.getD 0).toNat (negR (t.at k col)) := by simp only [rayN]; rw [if_pos h]
theorem rayN_no {t : Tb} {n col k : Nat} (h : ¬ t.basis[k]?.getD 0 < n) : rayN t n col (k + 1) = rayN t n col k := by simp only [rayN]; rw [if_neg h]
theorem rayN_len (t : Tb) (n col : Nat) : ∀ k, (rayN t n col k).length = n
  | 0 => by simp [rayN]
  | k + 1 => by
    by_cases h : t.basis[k]?.getD 0 < n
    · rw [rayN_yes h, List.length_set]; exact rayN_len t n col k
    · rw [rayN_no h]; exact rayN_len t n col k
theorem rayN_zero (t : Tb) (n col : Nat) : rayN t n col 0 = (List.replicate n ((0 : Int), (1 : Int))).set col (1, 1) := by
  simp only [rayN]
  apply List.ext_getElem
  · simp
  · intro i h1 h2
    rw [List.getElem_set]
    simp only [List.getElem_map, List.getElem_range, List.getElem_replicate]
    by_cases h : i = col
    · rw [if_pos h, if_pos h.symm]
    · rw [if_neg h, if_neg (fun e => h e.symm)]
theorem Rats.take {w : World} {a : Option Addr} {n cap : Nat} {l : List (Int × Int)} (h : Rats w a n cap l) {k : Nat} (hk : k ≤ n) : Rats w a k cap (l.take k) :=
  ⟨by rw [List.length_take, h.hlen]; omega, Nat.le_trans hk h.hcap, h.hmax, fun j hj => by
    obtain ⟨b, off, e, hc⟩ := h.cell j (by omega)
    refine ⟨b, off, e, fun i hi => ?_⟩
    rw [List.getElem?_take_of_lt hi]
    exact hc i (by omega)⟩
structure LrB (w W : World) (g : Nat) (s : Int) (vx vy vr : Value) (p q piv : Int) : Prop where
  ext : Ext w W
  hg : w.heap.size ≤ g
  box : W.heap[g]? = some (.cells #[.int .i64 s, vx, vy, vr, .int .i64 p, .int .i64 q, .int .i64 piv] 87 (0, 0))
abbrev lrZ : Obj := .cells #[.int .i64 0, .slice none 0 0, .slice none 0 0, .slice none 0 0, .int .i64 0, .int .i64 0, .int .i64 0] 87
theorem LrB.new {w W : World} (h : Ext w W) : LrB w (W.alloc lrZ) W.heap.size 0 (.slice none 0 0) (.slice none 0 0) (.slice none 0 0) 0 0 0 := ⟨h.trans (Ext.alloc _ _), h.size, heapA_new _ _ _ rfl⟩
theorem LrB.grow {w W W' : World} {g : Nat} {s : Int} {vx vy vr : Value} {p q piv : Int} (h : LrB w W g s vx vy vr p q piv) (hx : Ext W W') : LrB w W' g s vx vy vr p q piv := ⟨h.ext.trans hx, h.hg, (hx.block _ (lt_of_block h.box)).trans h.box⟩
theorem LrB.put {w W : World} {g : Nat} {s : Int} {vx vy vr : Value} {p q piv : Int} (h : LrB w W g s vx vy vr p q piv) (s' : Int) (vx' vy' vr' : Value) (p' q' piv' : Int) :
    LrB w (((((((W.setCell ⟨g, 0, none⟩ (.int .i64 s')).setCell ⟨g, 1, none⟩ vx').setCell ⟨g, 2, none⟩ vy').setCell ⟨g, 3, none⟩ vr').setCell ⟨g, 4, none⟩ (.int .i64 p')).setCell ⟨g, 5, none⟩ (.int .i64 q')).setCell ⟨g, 6, none⟩ (.int .i64 piv')) g s' vx' vy' vr' p' q' piv' := by
  refine ⟨((((((h.ext.setCell (p := ⟨g, 0, none⟩) h.hg _).setCell (p := ⟨g, 1, none⟩) h.hg _).setCell (p := ⟨g, 2, none⟩) h.hg _).setCell (p := ⟨g, 3, none⟩) h.hg _).setCell (p := ⟨g, 4, none⟩) h.hg _).setCell (p := ⟨g, 5, none⟩) h.hg _).setCell (p := ⟨g, 6, none⟩) h.hg _, h.hg, ?_⟩
  have b0 := heap_setCell_same W g 0 _ _ (.int .i64 s') h.box
  have b1 := heap_setCell_same _ g 1 _ _ vx' b0
  have b2 := heap_setCell_same _ g 2 _ _ vy' b1
  have b3 := heap_setCell_same _ g 3 _ _ vr' b2
  have b4 := heap_setCell_same _ g 4 _ _ (.int .i64 p') b3
  have b5 := heap_setCell_same _ g 5 _ _ (.int .i64 q') b4
  have b6 := heap_setCell_same _ g 6 _ _ (.int .i64 piv') b5
  rw [b6]; rfl
section
variable {w W : World} {g : Nat} {s : Int} {vx vy vr : Value} {p q piv : Int}
theorem LrB.c0 (h : LrB w W g s vx vy vr p q piv) : W.cell? ⟨g, 0, none⟩ = some (.int .i64 s) := by rw [cell_of_row W g _ _ _ _ h.box]; rfl
theorem LrB.c1 (h : LrB w W g s vx vy vr p q piv) : W.cell? ⟨g, 1, none⟩ = some vx := by rw [cell_of_row W g _ _ _ _ h.box]; rfl
theorem LrB.c2 (h : LrB w W g s vx vy vr p q piv) : W.cell? ⟨g, 2, none⟩ = some vy := by rw [cell_of_row W g _ _ _ _ h.box]; rfl
theorem LrB.c3 (h : LrB w W g s vx vy vr p q piv) : W.cell? ⟨g, 3, none⟩ = some vr := by rw [cell_of_row W g _ _ _ _ h.box]; rfl
theorem LrB.c4 (h : LrB w W g s vx vy vr p q piv) : W.cell? ⟨g, 4, none⟩ = some (.int .i64 p) := by rw [cell_of_row W g _ _ _ _ h.box]; rfl
theorem LrB.c5 (h : LrB w W g s vx vy vr p q piv) : W.cell? ⟨g, 5, none⟩ = some (.int .i64 q) := by rw [cell_of_row W g _ _ _ _ h.box]; rfl
theorem LrB.c6 (h : LrB w W g s vx vy vr p q piv) : W.cell? ⟨g, 6, none⟩ = some (.int .i64 piv) := by rw [cell_of_row W g _ _ _ _ h.box]; rfl
theorem LrB.free (h : LrB w W g s vx vy vr p q piv) (k : Nat) : W.frozen? ⟨g, k, none⟩ = false := frozen_of_row W g k _ _ h.box
end
theorem LrB.firstD {w w' : World} (h : Ext (w.alloc lrZ).drew w') : LrB w w' w.heap.size 0 (.slice none 0 0) (.slice none 0 0) (.slice none 0 0) 0 0 0 :=
  LrB.grow ⟨(Ext.alloc _ _).trans (Ext.drew _), Nat.le_refl _, heap_alloc_new w _⟩ h
theorem LrB.new' {w W : World} (h : Ext w W) {n : Nat} (hn : n = W.heap.size) : LrB w (W.alloc lrZ) n 0 (.slice none 0 0) (.slice none 0 0) (.slice none 0 0) 0 0 0 := by subst hn; exact LrB.new h
theorem OwnI.mod {w w' : World} {S b : Nat} {v : Value} {l : List Int} (h : OwnI w b v l) (hm : Mod S w w') {c : Array Value} {z : Nat × Nat} (hb : w.heap[S]? = some (.cells c 189 z)) : OwnI w' b v l :=
  h.keep fun k hk => hm.block k (h.lt k hk).2 fun e => (ownsRow_ne h hb (by decide)) (by rw [hk, e])
theorem OwnR.onRats {w : World} {base b : Nat} {a : Option Addr} {n cap : Nat} {l : List (Int × Int)} (h : OwnR w b (.slice a n cap) l) (hb : base ≤ b) : On base w (fun W => Rats W a n cap l) :=
  fun w2 h2 => (h.keep fun k hk => h2 k (Nat.le_trans hb (h.lt k hk).1) (h.lt k hk).2).rats
theorem OwnR.onTake {w : World} {base b : Nat} {a : Option Addr} {n cap : Nat} {l : List (Int × Int)} (h : OwnR w b (.slice a n cap) l) (hb : base ≤ b) {k : Nat} (hk : k ≤ n) : On base w (fun W => Rats W a k cap (l.take k)) :=
  fun w2 h2 => (h.onRats hb w2 h2).take hk
theorem Rats.nilR (w : World) : Rats w none 0 0 [] := ⟨rfl, Nat.le_refl _, by omega, fun k hk => absurd hk (by omega)⟩
structure LrOw (w : World) (base : Nat) (xa : Option Addr) (xn xc : Nat) (ya : Option Addr) (yn yc : Nat) (ra : Option Addr) (rn rc : Nat) (r : LpR) : Prop where
  x : On base w fun W => Rats W xa xn xc r.X
  y : On base w fun W => Rats W ya yn yc r.Y
  ray : On base w fun W => Rats W ra rn rc r.ray
theorem LrOw.here {w : World} {base : Nat} {xa : Option Addr} {xn xc : Nat} {ya : Option Addr} {yn yc : Nat} {ra : Option Addr} {rn rc : Nat} {r : LpR} (h : LrOw w base xa xn xc ya yn yc ra rn rc r) : LrC w xa xn xc ya yn yc ra rn rc r := ⟨h.x.here, h.y.here, h.ray.here⟩
theorem LrOw.ext {w w' : World} {base : Nat} {xa : Option Addr} {xn xc : Nat} {ya : Option Addr} {yn yc : Nat} {ra : Option Addr} {rn rc : Nat} {r : LpR} (h : LrOw w base xa xn xc ya yn yc ra rn rc r) (hx : Ext w w') : LrOw w' base xa xn xc ya yn yc ra rn rc r := ⟨h.x.ext hx, h.y.ext hx, h.ray.ext hx⟩
theorem LrOw.keep {w w' : World} {base : Nat} {xa : Option Addr} {xn xc : Nat} {ya : Option Addr} {yn yc : Nat} {ra : Option Addr} {rn rc : Nat} {r : LpR} (h : LrOw w base xa xn xc ya yn yc ra rn rc r) (hs : w.heap.size ≤ w'.heap.size) (hk : ∀ k, base ≤ k → k < w.heap.size → w'.heap[k]? = w.heap[k]?) : LrOw w' base xa xn xc ya yn yc ra rn rc r :=
  ⟨h.x.keep hs hk, h.y.keep hs hk, h.ray.keep hs hk⟩
theorem LrOw.mono {w : World} {base base' : Nat} {xa : Option Addr} {xn xc : Nat} {ya : Option Addr} {yn yc : Nat} {ra : Option Addr} {rn rc : Nat} {r : LpR} (h : LrOw w base xa xn xc ya yn yc ra rn rc r) (hb : base' ≤ base) : LrOw w base' xa xn xc ya yn yc ra rn rc r := ⟨h.x.mono hb, h.y.mono hb, h.ray.mono hb⟩
theorem LrOw.zero (w : World) (base : Nat) (s : Int) : LrOw w base none 0 0 none 0 0 none 0 0 (lpZero s) := ⟨fun w _ => Rats.nilR w, fun w _ => Rats.nilR w, fun w _ => Rats.nilR w⟩
end Go.Proofs.YtgohdmnbnhehnaaGreat
namespace Go.Proofs.YtgohdmnbnhehnaaGreat
set_option linter.unusedVariables false
set_option linter.unusedSimpArgs false
set_option maxRecDepth 100000
open Go.RowKit
set_option maxHeartbeats 4000000 in
theorem s_AddScaled {w : World} {k1 k2 : Int} {a b : Option Addr} {n cap n' cap' : Nat} {A B : List (Int × Int)} (h : Rats w a n cap A) (h' : Rats w b n' cap' B) (hbig : n ≤ 1048576) :
    Calls Tryz.prog 243 #[.slice a n cap, ratV k1 k2, .slice b n' cap'] w fun e w' => (∃ v, e = .returned (.tuple #[v, .bool (sclL A (k1, k2) B).isSome]) ∧ OwnR w' w.heap.size v ((sclL A (k1, k2) B).getD [])) ∧ Ext w w' := by
  have HL := Lib.hid h.hlen
  have HL' := Lib.hid h'.hlen
  have hmax := h.hmax
  have hcap := h.hcap
  have hmax' := h'.hmax
  have hcap' := h'.hcap
  have HA := Lib.hid h
  have HB' := Lib.hid h'
  have HX := Lib.hid (Ext.alloc w (.cells #[.int .i64 k1, .int .i64 k2] 85))
  clear h h'
  by_cases hne : n = n'
  · subst hne
    have HS := Lib.hid (show sclL A (k1, k2) B = runT (sclF A (k1, k2) B) n by unfold sclL; rw [HL.out, HL'.out, if_pos rfl])
    have HO := Lib.hid (OwnR.made (w.alloc (.cells #[.int .i64 k1, .int .i64 k2] 85)) (w.heap.size + 1) (by simp))
    go_enter Tryz.func243, Tryz.ntmps243
    go_wp2_with fail
    go_loopg [8, 9] n (fun gk o i wr => ∃ (k : Nat) (a1 : Option Addr) (n1 p1 : Nat) (r : List (Int × Int)), Hid (gk + k = n) ∧ i = .int .i64 (k : Int) ∧ o = .slice a1 n1 p1 ∧ Hid (runT (sclF A (k1, k2) B) k = some r) ∧ Hid (OwnR wr (w.heap.size + 1) (.slice a1 n1 p1) r) ∧ Hid (Ext (w.alloc (.cells #[.int .i64 k1, .int .i64 k2] 85)) wr))
    case atStart => exact ⟨0, _, _, _, [], Lib.hid (by omega), rfl, rfl, Lib.hid rfl, Lib.hid (by simpa using HO.out), Lib.hid (Ext.alloc _ _)⟩
    case round =>
      obtain ⟨k, a1, n1, p1, r, HK, rfl, rfl, HR, HO1, HX1⟩ := hrel
      have hszr := HX1.out.size
      rw [World.size_alloc] at hszr
      by_cases hlt : k < n
      · have hkc0 : wr.cell? ⟨w.heap.size, 0, none⟩ = some (.int .i64 k1) := HX1.out.cellSome (by simp)
        have hkc1 : wr.cell? ⟨w.heap.size, 1, none⟩ = some (.int .i64 k2) := HX1.out.cellSome (by simp)
        obtain ⟨ab, aoff, ax, ay, ha, hax, hac0, hac1⟩ := ((HA.out.ext HX.out).ext HX1.out).at hlt
        obtain ⟨bb, boff, bx, by', hb, hbx, hbc0, hbc1⟩ := ((HB'.out.ext HX.out).ext HX1.out).at hlt
        subst ha hb
        have HAX := Lib.hid hax
        have HBX := Lib.hid hbx
        obtain ⟨p, q, one, hm⟩ : ∃ p q ok, mulR (k1, k2) (bx, by') = ((p, q), ok) := ⟨_, _, _, rfl⟩
        have HM := Lib.hid hm
        obtain ⟨p2, q2, two, hs2⟩ : ∃ u v ok, addR (ax, ay) (p, q) = ((u, v), ok) := ⟨_, _, _, rfl⟩
        have HS2 := Lib.hid hs2
        clear hax hbx hm hs2
        go_upto_region 7 with fail
        go_cut [10, 11] (fun sx so wx => ∃ g : Nat, sx = .pointer (some ⟨g, 0, none⟩) ∧ so = .bool one ∧ Hid (Boxed wr wx g p q))
        case first =>
          have hk2 : Ext wr wr.drew := Ext.drew wr
          have hka : Ext wr (wr.alloc (.cells #[.int .i64 0, .int .i64 0] 85)).drew := (Ext.alloc _ _).trans (Ext.drew _)
          have HKEEP := Lib.hid (fun (w' : World) (h : Ext wr w') => (⟨h.cellSome hkc0, h.cellSome hkc1, h.cellSome hbc0, h.cellSome hbc1, h⟩ : w'.cell? ⟨w.heap.size, 0, none⟩ = some (.int .i64 k1) ∧ w'.cell? ⟨w.heap.size, 1, none⟩ = some (.int .i64 k2) ∧ w'.cell? ⟨bb, boff + k * 2, none⟩ = some (.int .i64 bx) ∧ w'.cell? ⟨bb, boff + k * 2 + 1, none⟩ = some (.int .i64 by') ∧ Ext wr w'))
          go_region_held3 (fun w' => w'.cell? ⟨w.heap.size, 0, none⟩ = some (.int .i64 k1) ∧ w'.cell? ⟨w.heap.size, 1, none⟩ = some (.int .i64 k2) ∧ w'.cell? ⟨bb, boff + k * 2, none⟩ = some (.int .i64 bx) ∧ w'.cell? ⟨bb, boff + k * 2 + 1, none⟩ = some (.int .i64 by') ∧ Ext wr w')
            (first
              | with_reducible exact HKEEP.out _ hk2
              | with_reducible exact HKEEP.out _ hka
              | with_reducible exact HKEEP.out _ ((hk2.setCell (by first | (simp; done) | (simp; omega)) _).setCell (by first | (simp; done) | (simp; omega)) _)
              | with_reducible exact HKEEP.out _ (hk2.trans (Ext.alloc _ _))
              | with_reducible exact HKEEP.out _ (hBB.put _ _).ext)
            (first
              | (go_at_call 221
                 (with_reducible refine (s_MulRat k1 k2 bx by' _).mono ?_)
                 rw [HM.out]
                 rintro e w3 ⟨rfl, hx_w3⟩
                 first | (with_reducible have hBB := Boxed.grow hBB hx_w3) | (with_reducible have hBB := Boxed.firstD hx_w3) | (with_reducible have hBB := Boxed.laterD hk2 hx_w3) | skip
                 first | (have b0_ := hBB.c0; have b1_ := hBB.c1; have fb_ := hBB.free) | skip
                 have hk2 : Ext wr w3 := by first | with_reducible exact hk2.trans hx_w3 | with_reducible exact hka.trans hx_w3 | with_reducible exact (hk2.trans (Ext.alloc _ _)).trans hx_w3
                 have hk2s := hk2.size)
              | fail)
          all_goals (go_wp2_with fail; go_meet; first | exact ⟨_, rfl, rfl, Lib.hid (hBB.put _ _)⟩ | exact ⟨_, rfl, rfl, Lib.hid (Boxed.new hk2 _ _)⟩ | exact ⟨_, rfl, rfl, Lib.hid (Boxed.new' hk2 _ _ (by simp))⟩)
        obtain ⟨g, rfl, rfl, HB1⟩ := hcut
        have g0 := HB1.out.c0
        have g1 := HB1.out.c1
        replace hac0 := HB1.out.ext.cellSome hac0
        replace hac1 := HB1.out.ext.cellSome hac1
        clear hkc0 hkc1 hbc0 hbc1
        go_upto_region 8 with fail
        go_cut [12, 13] (fun sx so wx => ∃ g2 : Nat, sx = .pointer (some ⟨g2, 0, none⟩) ∧ so = .bool two ∧ Hid (Boxed wc wx g2 p2 q2))
        case first =>
          have hk2 : Ext wc wc.drew := Ext.drew wc
          have hka : Ext wc (wc.alloc (.cells #[.int .i64 0, .int .i64 0] 85)).drew := (Ext.alloc _ _).trans (Ext.drew _)
          have HKEEP := Lib.hid (fun (w' : World) (h : Ext wc w') => (⟨h.cellSome hac0, h.cellSome hac1, h.cellSome g0, h.cellSome g1, h⟩ : w'.cell? ⟨ab, aoff + k * 2, none⟩ = some (.int .i64 ax) ∧ w'.cell? ⟨ab, aoff + k * 2 + 1, none⟩ = some (.int .i64 ay) ∧ w'.cell? ⟨g, 0, none⟩ = some (.int .i64 p) ∧ w'.cell? ⟨g, 1, none⟩ = some (.int .i64 q) ∧ Ext wc w'))
          go_region_held3 (fun w' => w'.cell? ⟨ab, aoff + k * 2, none⟩ = some (.int .i64 ax) ∧ w'.cell? ⟨ab, aoff + k * 2 + 1, none⟩ = some (.int .i64 ay) ∧ w'.cell? ⟨g, 0, none⟩ = some (.int .i64 p) ∧ w'.cell? ⟨g, 1, none⟩ = some (.int .i64 q) ∧ Ext wc w')
            (first
              | with_reducible exact HKEEP.out _ hk2
              | with_reducible exact HKEEP.out _ hka
              | with_reducible exact HKEEP.out _ ((hk2.setCell (by first | (simp; done) | (simp; omega)) _).setCell (by first | (simp; done) | (simp; omega)) _)
              | with_reducible exact HKEEP.out _ (hk2.trans (Ext.alloc _ _))
              | with_reducible exact HKEEP.out _ (hBB.put _ _).ext)
            (first
              | (go_at_call 141
                 (with_reducible refine (s_AddRat ax ay p q _).mono ?_)
                 rw [HS2.out]
                 rintro e w4 ⟨rfl, hx_w4⟩
                 first | (with_reducible have hBB := Boxed.grow hBB hx_w4) | (with_reducible have hBB := Boxed.firstD hx_w4) | (with_reducible have hBB := Boxed.laterD hk2 hx_w4) | skip
                 first | (have b0_ := hBB.c0; have b1_ := hBB.c1; have fb_ := hBB.free) | skip
                 have hk2 : Ext wc w4 := by first | with_reducible exact hk2.trans hx_w4 | with_reducible exact hka.trans hx_w4 | with_reducible exact (hk2.trans (Ext.alloc _ _)).trans hx_w4
                 have hk2s := hk2.size)
              | fail)
          all_goals (go_wp2_with fail; go_meet; first | exact ⟨_, rfl, rfl, Lib.hid (hBB.put _ _)⟩ | exact ⟨_, rfl, rfl, Lib.hid (Boxed.new hk2 _ _)⟩ | exact ⟨_, rfl, rfl, Lib.hid (Boxed.new' hk2 _ _ (by simp))⟩)
        obtain ⟨g2, rfl, rfl, HB2⟩ := hcut
        have X2 := Lib.hid ((HX1.out.trans HB1.out.ext).trans HB2.out.ext)
        have HO2 := Lib.hid ((HO1.out.ext HB1.out.ext).ext HB2.out.ext)
        have h0 := HB2.out.c0
        have h1 := HB2.out.c1
        have HF := Lib.hid (show sclF A (k1, k2) B k = if (one && two) = true then some (p2, q2) else none by unfold sclF; rw [HAX.out, HBX.out, HM.out]; simp only; rw [HS2.out]; simp only [Bool.and_eq_true])
        clear hac0 hac1 g0 g1
        cases hb12 : (one && two)
        · have HN := Lib.hid (show runT (sclF A (k1, k2) B) n = none from runT_fail HR.out (by rw [HF.out, hb12]; rfl) hlt)
          cases one
          case' true => (have h2 : two = false := by simpa using hb12); subst h2
          all_goals
            clear hb12
            go_wp2_with fail
            have hszz := X2.out.size
            rw [World.size_alloc] at hszz
            go_ret2
            exact ⟨⟨_, ret_tup (by rw [HS.out, HN.out]; rfl), by rw [HS.out, HN.out]; exact OwnR.made _ _ (by omega)⟩, HX.out.trans (X2.out.trans (Ext.alloc _ _))⟩
        · obtain ⟨rfl, rfl⟩ : one = true ∧ two = true := by simpa using hb12
          have HR2 := Lib.hid (runT_some (x := (p2, q2)) HR.out (by rw [HF.out]; rfl))
          have HLR := Lib.hid (runT_len HR.out)
          have hszc := X2.out.size
          rw [World.size_alloc] at hszc
          clear hb12
          go_wp2_with (first
            | (at_builtin; refine append_rats rfl _ _ rfl (w.heap.size + 1) (.slice a1 n1 p1) _ rfl (HO2.out.ext (Ext.alloc _ _)) _ 1 _ [(p2, q2)] rfl (Rats.one' _ _ _ _ _ (by simp)) (by rw [HLR.out]; omega) (by simp; omega) ?_; intro v2 w4 ho hg hnear; obtain ⟨a2, n2, c2, rfl, HN2⟩ := ho.var; have HO4 := Lib.hid ho; have X5 := Lib.hid (ext_grown (X2.out.trans (Ext.alloc _ _)) hg (fun j hj => by have := (HO2.out.lt j hj).1; simpa using this)); clear ho hg hnear))
          go_roundg (gk - 1)
          case measure => have := HK.out; omega
          case rel => exact ⟨k + 1, a2, n2, c2, _, Lib.hid (by have := HK.out; omega), by go_num, rfl, HR2, HO4, X5⟩
      · have hkn : k = n := by have := HK.out; omega
        subst hkn
        go_wp2_with fail
        go_ret2
        exact ⟨⟨_, ret_tup (by rw [HS.out, HR.out]; rfl), by rw [HS.out, HR.out]; exact HO1.out.mono (Nat.le_succ _)⟩, HX.out.trans HX1.out⟩
  · have HN := Lib.hid (show sclL A (k1, k2) B = none by unfold sclL; rw [HL.out, HL'.out, if_neg hne])
    go_enter Tryz.func243, Tryz.ntmps243
    go_wp2_with fail
    have HO := Lib.hid (OwnR.made (w.alloc (.cells #[.int .i64 k1, .int .i64 k2] 85)) w.heap.size (by simp))
    go_ret2
    exact ⟨⟨_, ret_tup (by rw [HN.out]; rfl), by rw [HN.out]; simpa using HO.out⟩, HX.out.trans (Ext.alloc _ _)⟩
set_option maxHeartbeats 4000000 in
theorem s_l4Copy {w : World} {a : Option Addr} {n cap : Nat} {l : List (Int × Int)} (h : Rats w a n cap l) (hb : n ≤ 1099511627776) :
    Calls Tryz.prog 132 #[.slice a n cap] w fun e w' => (∃ v, e = .returned v ∧ OwnR w' w.heap.size v l) ∧ Ext w w' := by
  have HI := Lib.hid (h.ext (Ext.alloc w (.cells #[] 85)))
  have HO := Lib.hid (OwnR.made w w.heap.size (Nat.le_refl _))
  clear h
  go_enter Tryz.func132, Tryz.ntmps132
  go_wp2_with (first | (at_builtin; refine append_rats rfl _ _ rfl w.heap.size _ _ rfl HO.out _ n _ l rfl HI.out (by simpa using hb) (by simp) ?_; intro v' w1 ho hg hnear))
  go_ret
  exact ⟨⟨_, rfl, by simpa using ho⟩, ext_grown (Ext.alloc _ _) hg (fun k hk => Nat.le_of_eq (Option.some.inj (show some w.heap.size = some k from hk)))⟩
set_option maxHeartbeats 8000000 in
theorem s_l6Divide {w : World} {k1 k2 : Int} {a : Option Addr} {n cap : Nat} {A : List (Int × Int)} (h : Rats w a n cap A) (hbig : n ≤ 1048576) :
    Calls Tryz.prog 261 #[.slice a n cap, ratV k1 k2] w fun e w' => (∃ v, e = .returned (.tuple #[v, .bool (divL A (k1, k2)).isSome]) ∧ OwnR w' w.heap.size v ((divL A (k1, k2)).getD [])) ∧ Ext w w' := by
  have HL := Lib.hid h.hlen
  have hmax := h.hmax
  have hcap := h.hcap
  have HA := Lib.hid h
  have HX := Lib.hid (Ext.alloc w (.cells #[.int .i64 k1, .int .i64 k2] 85))
  have HS := Lib.hid (show divL A (k1, k2) = runT (divF A (k1, k2)) n by unfold divL; rw [h.hlen])
  have HO := Lib.hid (OwnR.made (w.alloc (.cells #[.int .i64 k1, .int .i64 k2] 85)) (w.heap.size + 1) (by simp))
  clear h
  go_enter Tryz.func261, Tryz.ntmps261
  go_wp2_with fail
  go_loopg [6, 7] n (fun gk o i wr => ∃ (k : Nat) (a1 : Option Addr) (n1 p1 : Nat) (r : List (Int × Int)), Hid (gk + k = n) ∧ i = .int .i64 (k : Int) ∧ o = .slice a1 n1 p1 ∧ Hid (runT (divF A (k1, k2)) k = some r) ∧ Hid (OwnR wr (w.heap.size + 1) (.slice a1 n1 p1) r) ∧ Hid (Ext (w.alloc (.cells #[.int .i64 k1, .int .i64 k2] 85)) wr))
  case atStart => exact ⟨0, _, _, _, [], Lib.hid (by omega), rfl, rfl, Lib.hid rfl, Lib.hid (by simpa using HO.out), Lib.hid (Ext.alloc _ _)⟩
  case round =>
    obtain ⟨k, a1, n1, p1, r, HK, rfl, rfl, HR, HO1, HX1⟩ := hrel
    have hszr := HX1.out.size
    rw [World.size_alloc] at hszr
    by_cases hlt : k < n
    · have hkc0 : wr.cell? ⟨w.heap.size, 0, none⟩ = some (.int .i64 k1) := HX1.out.cellSome (by simp)
      have hkc1 : wr.cell? ⟨w.heap.size, 1, none⟩ = some (.int .i64 k2) := HX1.out.cellSome (by simp)
      obtain ⟨ab, aoff, ax, ay, ha, hax, hac0, hac1⟩ := ((HA.out.ext HX.out).ext HX1.out).at hlt
      subst ha
      have HAX := Lib.hid hax
      obtain ⟨p, q, one, hm⟩ : ∃ p q ok, divR (ax, ay) (k1, k2) = ((p, q), ok) := ⟨_, _, _, rfl⟩
      have HM := Lib.hid hm
      clear hax hm
      go_upto_region 5 with fail
      go_cut [8, 9] (fun sx so wx => ∃ g : Nat, sx = .pointer (some ⟨g, 0, none⟩) ∧ so = .bool one ∧ Hid (Boxed wr wx g p q))
      case first =>
        have hk2 : Ext wr wr.drew := Ext.drew wr
        have hka : Ext wr (wr.alloc (.cells #[.int .i64 0, .int .i64 0] 85)).drew := (Ext.alloc _ _).trans (Ext.drew _)
        have HKEEP := Lib.hid (fun (w' : World) (h : Ext wr w') => (⟨h.cellSome hkc0, h.cellSome hkc1, h.cellSome hac0, h.cellSome hac1, h⟩ : w'.cell? ⟨w.heap.size, 0, none⟩ = some (.int .i64 k1) ∧ w'.cell? ⟨w.heap.size, 1, none⟩ = some (.int .i64 k2) ∧ w'.cell? ⟨ab, aoff + k * 2, none⟩ = some (.int .i64 ax) ∧ w'.cell? ⟨ab, aoff + k * 2 + 1, none⟩ = some (.int .i64 ay) ∧ Ext wr w'))
        go_region_held3 (fun w' => w'.cell? ⟨w.heap.size, 0, none⟩ = some (.int .i64 k1) ∧ w'.cell? ⟨w.heap.size, 1, none⟩ = some (.int .i64 k2) ∧ w'.cell? ⟨ab, aoff + k * 2, none⟩ = some (.int .i64 ax) ∧ w'.cell? ⟨ab, aoff + k * 2 + 1, none⟩ = some (.int .i64 ay) ∧ Ext wr w')
          (first
            | with_reducible exact HKEEP.out _ hk2
            | with_reducible exact HKEEP.out _ hka
            | with_reducible exact HKEEP.out _ ((hk2.setCell (by first | (simp; done) | (simp; omega)) _).setCell (by first | (simp; done) | (simp; omega)) _)
            | with_reducible exact HKEEP.out _ (hk2.trans (Ext.alloc _ _))
            | with_reducible exact HKEEP.out _ (hBB.put _ _).ext)
          (first
            | (go_at_call 244
               (with_reducible refine (s_DivRat ax ay k1 k2 _).mono ?_)
               rw [HM.out]
               rintro e w3 ⟨rfl, hx_w3⟩
               first | (with_reducible have hBB := Boxed.grow hBB hx_w3) | (with_reducible have hBB := Boxed.firstD hx_w3) | (with_reducible have hBB := Boxed.laterD hk2 hx_w3) | skip
               first | (have b0_ := hBB.c0; have b1_ := hBB.c1; have fb_ := hBB.free) | skip
               have hk2 : Ext wr w3 := by first | with_reducible exact hk2.trans hx_w3 | with_reducible exact hka.trans hx_w3 | with_reducible exact (hk2.trans (Ext.alloc _ _)).trans hx_w3
               have hk2s := hk2.size)
            | fail)
        all_goals (go_wp2_with fail; go_meet; first | exact ⟨_, rfl, rfl, Lib.hid (hBB.put _ _)⟩ | exact ⟨_, rfl, rfl, Lib.hid (Boxed.new hk2 _ _)⟩ | exact ⟨_, rfl, rfl, Lib.hid (Boxed.new' hk2 _ _ (by simp))⟩)
      obtain ⟨g, rfl, rfl, HB1⟩ := hcut
      have g0 := HB1.out.c0
      have g1 := HB1.out.c1
      have X2 := Lib.hid (HX1.out.trans HB1.out.ext)
      have HO2 := Lib.hid (HO1.out.ext HB1.out.ext)
      have HF := Lib.hid (show divF A (k1, k2) k = if one = true then some (p, q) else none by unfold divF; rw [HAX.out, HM.out])
      have hszc := X2.out.size
      rw [World.size_alloc] at hszc
      clear hkc0 hkc1 hac0 hac1
      cases one
      · have HN := Lib.hid (show runT (divF A (k1, k2)) n = none from runT_fail HR.out (by rw [HF.out]; rfl) hlt)
        go_wp2_with fail
        go_ret2
        exact ⟨⟨_, ret_tup (by rw [HS.out, HN.out]; rfl), by rw [HS.out, HN.out]; exact OwnR.made _ _ (by omega)⟩, HX.out.trans (X2.out.trans (Ext.alloc _ _))⟩
      · have HR2 := Lib.hid (runT_some (x := (p, q)) HR.out (by rw [HF.out]; rfl))
        have HLR := Lib.hid (runT_len HR.out)
        go_wp2_with (first
          | (at_builtin; refine append_rats rfl _ _ rfl (w.heap.size + 1) (.slice a1 n1 p1) _ rfl (HO2.out.ext (Ext.alloc _ _)) _ 1 _ [(p, q)] rfl (Rats.one' _ _ _ _ _ (by simp)) (by rw [HLR.out]; omega) (by simp; omega) ?_; intro v2 w4 ho hg hnear; obtain ⟨a2, n2, c2, rfl, HN2⟩ := ho.var; have HO4 := Lib.hid ho; have X5 := Lib.hid (ext_grown (X2.out.trans (Ext.alloc _ _)) hg (fun j hj => by have := (HO2.out.lt j hj).1; simpa using this)); clear ho hg hnear))
        go_roundg (gk - 1)
        case measure => have := HK.out; omega
        case rel => exact ⟨k + 1, a2, n2, c2, _, Lib.hid (by have := HK.out; omega), by go_num, rfl, HR2, HO4, X5⟩
    · have hkn : k = n := by have := HK.out; omega
      subst hkn
      go_wp2_with fail
      go_ret2
      exact ⟨⟨_, ret_tup (by rw [HS.out, HR.out]; rfl), by rw [HS.out, HR.out]; exact HO1.out.mono (Nat.le_succ _)⟩, HX.out.trans HX1.out⟩
section
variable {w : World} {ra : Option Addr} {rn rc : Nat} {ba : Option Addr} {bn bc : Nat} {t : Tb} {n m : Nat} {T0 : Nat → Nat → Rat}
structure TbN (w : World) (ra : Option Addr) (rn rc : Nat) (ba : Option Addr) (bn bc : Nat) (t : Tb) (n m : Nat) : Prop where
  tb : TbC w ra m rc ba m bc t
  rn : rn = m
  bn : bn = m
  cols : t.cols = n
theorem TInv.sizes (h : TInv n m T0 t) (hc : TbC w ra rn rc ba bn bc t) : rn = m ∧ bn = m := ⟨by rw [← hc.rows.hlen]; exact h.len, by rw [← hc.basis.hlen]; exact h.blen⟩
set_option maxHeartbeats 8000000 in
theorem s_l6Good (h : TbC w ra m rc ba m bc t) (hT : TInv n m T0 t) (hn : n ≤ 1000) (hm : m ≤ 1000) :
    Calls Tryz.prog 218 #[tbW ra m rc ba m bc (n : Int)] w fun e w' => e = .returned (.bool true) ∧ Ext w w' := by
  have hx0 := Ext.alloc w (tbBox ra m rc ba m bc (n : Int))
  have HX0 := Lib.hid hx0
  have H := Lib.hid (h.ext hx0)
  have HTB := Lib.hid (show (w.alloc (tbBox ra m rc ba m bc (n : Int))).heap[w.heap.size]? = some (.cells #[.slice ra m rc, .slice ba m bc, .int .i64 (n : Int)] 142 (0, 0)) from heapA_new _ _ _ rfl)
  have h1 := h.rows.hcap
  have h2 := h.rows.hmax
  have h3 := h.basis.hcap
  have h4 := h.basis.hmax
  have HT := Lib.hid hT
  clear h hT hx0
  have hn0 : ¬ (n : Int) < 0 := by omega
  have hn1 : ¬ (n : Int) > 1000 := by omega
  have hmm : ((m : Int) != (m : Int)) = false := by simp
  go_enter Tryz.func218, Tryz.ntmps218
  go_wp2_with fail
  go_loopg [4] m (fun gk ii wr => ∃ k : Nat, Hid (gk + k = m) ∧ ii = .int .i64 (k : Int) ∧ Hid (Ext (w.alloc (tbBox ra m rc ba m bc (n : Int))) wr))
  case atStart => exact ⟨0, Lib.hid (by omega), rfl, Lib.hid (Ext.refl _)⟩
  case round =>
    obtain ⟨g1, h_g1⟩ : ∃ x, x = gk := ⟨_, rfl⟩
    subst h_g1
    obtain ⟨wr1, h_wr1⟩ : ∃ x, x = wr := ⟨_, rfl⟩
    subst h_wr1
    obtain ⟨k, HK, rfl, HX⟩ := hrel
    have p0 := tbox0 (HX.out.blk HTB.out)
    have p1 := tbox1 (HX.out.blk HTB.out)
    have p2 := tbox2 (HX.out.blk HTB.out)
    by_cases hlt : k < m
    · obtain ⟨zb, zoff, ya, yn, yc, hza, hz0, hrow⟩ := (H.out.ext HX.out).rows.at hlt
      subst hza
      have hyn : yn = n + m + 1 := by rw [← hrow.hlen]; exact (HT.out.row k hlt).1
      have hy1 := hrow.hcap
      have hy2 := hrow.hmax
      obtain ⟨eb, eoff, hea, he0⟩ := (H.out.ext HX.out).basis.at hlt
      subst hea
      obtain ⟨bk, hbk⟩ : ∃ x, x = t.basis[k]?.getD 0 := ⟨_, rfl⟩
      rw [← hbk] at he0
      have hbr : 0 ≤ bk ∧ bk < n + m := by
        rw [hbk, List.getElem?_eq_getElem (by rw [HT.out.blen]; exact hlt)]; exact HT.out.bas _ (List.getElem_mem _)
      have HIN := Lib.hid (fun w' => s_l1In bk 0 ((n : Int) + (m : Int) - 1) w')
      rw [show inB bk 0 ((n : Int) + (m : Int) - 1) = true by unfold inB; simp; omega] at HIN
      have hw1 : IntKind.i64.wrap ((n : Int) + (m : Int)) = (n : Int) + (m : Int) := by rw [IntKind.wrap_i64]; omega
      have hw2 : IntKind.i64.wrap ((n : Int) + (m : Int) + 1) = (n : Int) + (m : Int) + 1 := by rw [IntKind.wrap_i64]; omega
      have hw3 : IntKind.i64.wrap ((n : Int) + (m : Int) - 1) = (n : Int) + (m : Int) - 1 := by rw [IntKind.wrap_i64]; omega
      have hyy : ((yn : Int) != (n : Int) + (m : Int) + 1) = false := by simp; omega
      have hk0 : (0 : Int) ≤ (k : Int) := by omega
      have hk1 : (k : Int) < (m : Int) := by omega
      clear hrow hyn hbk hbr
      go_upto_region 7 with fail
      have hk2 : Ext wr1 wr1.drew := Ext.drew wr1
      have HKEEP := Lib.hid (fun (w' : World) (h : Ext wr1 w') => (⟨h.cellSome p0, h.cellSome p1, h.cellSome p2, h.cellSome hz0, h.cellSome he0, h⟩ : w'.cell? ⟨w.heap.size, 0, none⟩ = some (.slice (some ⟨zb, zoff, none⟩) m rc) ∧ w'.cell? ⟨w.heap.size, 1, none⟩ = some (.slice (some ⟨eb, eoff, none⟩) m bc) ∧ w'.cell? ⟨w.heap.size, 2, none⟩ = some (.int .i64 (n : Int)) ∧ w'.cell? ⟨zb, zoff + k, none⟩ = some (.slice ya yn yc) ∧ w'.cell? ⟨eb, eoff + k, none⟩ = some (.int .i64 bk) ∧ Ext wr1 w'))
      refine wp_region_held_drew (S := (fun w' => w'.cell? ⟨w.heap.size, 0, none⟩ = some (.slice (some ⟨zb, zoff, none⟩) m rc) ∧ w'.cell? ⟨w.heap.size, 1, none⟩ = some (.slice (some ⟨eb, eoff, none⟩) m bc) ∧ w'.cell? ⟨w.heap.size, 2, none⟩ = some (.int .i64 (n : Int)) ∧ w'.cell? ⟨zb, zoff + k, none⟩ = some (.slice ya yn yc) ∧ w'.cell? ⟨eb, eoff + k, none⟩ = some (.int .i64 bk) ∧ Ext wr1 w')) (by kernel_rfl) ?_ (fun hHeld => ?_)
      · exact HKEEP.out _ hk2
      refine wpAnyH_take (i := 0) (oi := ?_) (v := ?_) ?_ ?_ ?_ ?_ ?_ ?_ ?_ ?_
      rotate_left 2
      · simp only [gA, gB, gC]; rfl
      · kernel_rfl
      · kernel_rfl
      · kernel_rfl
      · exact fun _ _ _ h => h
      · refine Or.inl ⟨by rfl, ?_⟩; intro w hSw; (try dsimp only at hSw); go_simp; (try with_reducible rfl)
      · assumption
      try simp only [Act.put, sA, sB, sC]
      refine wpAnyH_take (i := 1) (oi := ?_) (v := ?_) ?_ ?_ ?_ ?_ ?_ ?_ ?_ ?_
      rotate_left 2
      · simp only [gA, gB, gC]; rfl
      · kernel_rfl
      · kernel_rfl
      · kernel_rfl
      · exact fun _ _ _ h => h
      · refine Or.inl ⟨by rfl, ?_⟩; intro w hSw; (try dsimp only at hSw); go_simp; (try with_reducible rfl)
      · assumption
      try simp only [Act.put, sA, sB, sC]
      refine wpAnyH_take (i := 2) (oi := ?_) (v := ?_) ?_ ?_ ?_ ?_ ?_ ?_ ?_ ?_
      rotate_left 2
      · simp only [gA, gB, gC]; rfl
      · kernel_rfl
      · kernel_rfl
      · kernel_rfl
      · exact fun _ _ _ h => h
      · refine Or.inl ⟨by rfl, ?_⟩; intro w hSw; (try dsimp only at hSw); go_simp; (try with_reducible rfl)
      · assumption
      try simp only [Act.put, sA, sB, sC]
      refine wpAnyH_take (i := 3) (oi := ?_) (v := ?_) ?_ ?_ ?_ ?_ ?_ ?_ ?_ ?_
      rotate_left 2
      · simp only [gA, gB, gC]; rfl
      · kernel_rfl
      · kernel_rfl
      · kernel_rfl
      · exact fun _ _ _ h => h
      · refine Or.inl ⟨by rfl, ?_⟩; intro w hSw; (try dsimp only at hSw); go_simp; (try with_reducible rfl)
      · assumption
      try simp only [Act.put, sA, sB, sC]
      refine wpAnyH_take (i := 4) (oi := ?_) (v := ?_) ?_ ?_ ?_ ?_ ?_ ?_ ?_ ?_
      rotate_left 2
      · simp only [gA, gB, gC]; rfl
      · kernel_rfl
      · kernel_rfl
      · kernel_rfl
      · exact fun _ _ _ h => h
      · refine Or.inl ⟨by rfl, ?_⟩; intro w hSw; (try dsimp only at hSw); go_simp; (try with_reducible rfl)
      · assumption
      try simp only [Act.put, sA, sB, sC]
      refine wpAnyH_take (i := 5) (oi := ?_) (v := ?_) ?_ ?_ ?_ ?_ ?_ ?_ ?_ ?_
      rotate_left 2
      · simp only [gA, gB, gC]; rfl
      · kernel_rfl
      · kernel_rfl
      · kernel_rfl
      · exact fun _ _ _ h => h
      · refine Or.inl ⟨by rfl, ?_⟩; intro w hSw; (try dsimp only at hSw); go_simp; (try with_reducible rfl)
      · assumption
      try simp only [Act.put, sA, sB, sC]
      refine wpAnyH_take (i := 6) (oi := ?_) (v := ?_) ?_ ?_ ?_ ?_ ?_ ?_ ?_ ?_
      rotate_left 2
      · simp only [gA, gB, gC]; rfl
      · kernel_rfl
      · kernel_rfl
      · kernel_rfl
      · exact fun _ _ _ h => h
      · refine Or.inl ⟨by rfl, ?_⟩; intro w hSw; (try dsimp only at hSw); go_simp; (try with_reducible rfl)
      · assumption
      try simp only [Act.put, sA, sB, sC]
      refine wpAnyH_take (i := 7) (oi := ?_) (v := ?_) ?_ ?_ ?_ ?_ ?_ ?_ ?_ ?_
      rotate_left 2
      · simp only [gA, gB, gC]; rfl
      · kernel_rfl
      · kernel_rfl
      · kernel_rfl
      · exact fun _ _ _ h => h
      · refine Or.inl ⟨by rfl, ?_⟩; intro w hSw; (try dsimp only at hSw); go_simp; (try with_reducible rfl)
      · assumption
      try simp only [Act.put, sA, sB, sC]
      refine wpAnyH_take (i := 8) (oi := ?_) (v := ?_) ?_ ?_ ?_ ?_ ?_ ?_ ?_ ?_
      rotate_left 2
      · simp only [gA, gB, gC]; rfl
      · kernel_rfl
      · kernel_rfl
      · kernel_rfl
      · exact fun _ _ _ h => h
      · refine Or.inl ⟨by rfl, ?_⟩; intro w hSw; (try dsimp only at hSw); go_simp; (try with_reducible rfl)
      · assumption
      try simp only [Act.put, sA, sB, sC]
      refine wpAnyH_take (i := 9) (oi := ?_) (v := ?_) ?_ ?_ ?_ ?_ ?_ ?_ ?_ ?_
      rotate_left 2
      · simp only [gA, gB, gC]; rfl
      · kernel_rfl
      · kernel_rfl
      · kernel_rfl
      · exact fun _ _ _ h => h
      · refine Or.inl ⟨by rfl, ?_⟩; intro w hSw; (try dsimp only at hSw); go_simp; (try with_reducible rfl)
      · assumption
      try simp only [Act.put, sA, sB, sC]
      refine wpAnyH_take (i := 10) (oi := ?_) (v := ?_) ?_ ?_ ?_ ?_ ?_ ?_ ?_ ?_
      rotate_left 2
      · simp only [gA, gB, gC]; rfl
      · kernel_rfl
      · kernel_rfl
      · kernel_rfl
      · exact fun _ _ _ h => h
      · refine Or.inl ⟨by rfl, ?_⟩; intro w hSw; (try dsimp only at hSw); go_simp; (try with_reducible rfl)
      · assumption
      try simp only [Act.put, sA, sB, sC]
      refine wpAnyH_take (i := 11) (oi := ?_) (v := ?_) ?_ ?_ ?_ ?_ ?_ ?_ ?_ ?_
      rotate_left 2
      · simp only [gA, gB, gC]; rfl
      · kernel_rfl
      · kernel_rfl
      · kernel_rfl
      · exact fun _ _ _ h => h
      · refine Or.inl ⟨by rfl, ?_⟩; intro w hSw; (try dsimp only at hSw); go_simp; (try with_reducible rfl)
      · assumption
      try simp only [Act.put, sA, sB, sC]
      refine wpAnyH_take (i := 12) (oi := ?_) (v := ?_) ?_ ?_ ?_ ?_ ?_ ?_ ?_ ?_
      rotate_left 2
      · simp only [gA, gB, gC]; rfl
      · kernel_rfl
      · kernel_rfl
      · kernel_rfl
      · exact fun _ _ _ h => h
      · refine Or.inl ⟨by rfl, ?_⟩; intro w hSw; (try dsimp only at hSw); go_simp; (try with_reducible rfl)
      · assumption
      try simp only [Act.put, sA, sB, sC]
      refine wpAnyH_take (i := 13) (oi := ?_) (v := ?_) ?_ ?_ ?_ ?_ ?_ ?_ ?_ ?_
      rotate_left 2
      · simp only [gA, gB, gC]; rfl
      · kernel_rfl
      · kernel_rfl
      · kernel_rfl
      · exact fun _ _ _ h => h
      · refine Or.inl ⟨by rfl, ?_⟩; intro w hSw; (try dsimp only at hSw); go_simp; (try with_reducible rfl)
      · assumption
      try simp only [Act.put, sA, sB, sC]
      refine wpAnyH_take (i := 14) (oi := ?_) (v := ?_) ?_ ?_ ?_ ?_ ?_ ?_ ?_ ?_
      rotate_left 2
      · simp only [gA, gB, gC]; rfl
      · kernel_rfl
      · kernel_rfl
      · kernel_rfl
      · exact fun _ _ _ h => h
      · refine Or.inl ⟨by rfl, ?_⟩; intro w hSw; (try dsimp only at hSw); go_simp; (try with_reducible rfl)
      · assumption
      try simp only [Act.put, sA, sB, sC]
      refine wpAnyH_take (i := 15) (oi := ?_) (v := ?_) ?_ ?_ ?_ ?_ ?_ ?_ ?_ ?_
      rotate_left 2
      · simp only [gA, gB, gC]; rfl
      · kernel_rfl
      · kernel_rfl
      · kernel_rfl
      · exact fun _ _ _ h => h
      · refine Or.inl ⟨by rfl, ?_⟩; intro w hSw; (try dsimp only at hSw); go_simp; (try with_reducible rfl)
      · assumption
      try simp only [Act.put, sA, sB, sC]
      refine wpAnyH_take (i := 16) (oi := ?_) (v := ?_) ?_ ?_ ?_ ?_ ?_ ?_ ?_ ?_
      rotate_left 2
      · simp only [gA, gB, gC]; rfl
      · kernel_rfl
      · kernel_rfl
      · kernel_rfl
      · exact fun _ _ _ h => h
      · refine Or.inl ⟨by rfl, ?_⟩; intro w hSw; (try dsimp only at hSw); go_simp; (try with_reducible rfl)
      · assumption
      try simp only [Act.put, sA, sB, sC]
      refine wpAnyH_take (i := 17) (oi := ?_) (v := ?_) ?_ ?_ ?_ ?_ ?_ ?_ ?_ ?_
      rotate_left 2
      · simp only [gA, gB, gC]; rfl
      · kernel_rfl
      · kernel_rfl
      · kernel_rfl
      · exact fun _ _ _ h => h
      · refine Or.inl ⟨by rfl, ?_⟩; intro w hSw; (try dsimp only at hSw); go_simp; (try with_reducible rfl)
      · assumption
      try simp only [Act.put, sA, sB, sC]
      refine wpAnyH_take (i := 18) (oi := ?_) (v := ?_) ?_ ?_ ?_ ?_ ?_ ?_ ?_ ?_
      rotate_left 2
      · simp only [gA, gB, gC]; rfl
      · kernel_rfl
      · kernel_rfl
      · kernel_rfl
      · exact fun _ _ _ h => h
      · refine Or.inl ⟨by rfl, ?_⟩; intro w hSw; (try dsimp only at hSw); go_simp; (try with_reducible rfl)
      · assumption
      try simp only [Act.put, sA, sB, sC]
      refine wpAnyH_take (i := 19) (oi := ?_) (v := ?_) ?_ ?_ ?_ ?_ ?_ ?_ ?_ ?_
      rotate_left 2
      · simp only [gA, gB, gC]; rfl
      · kernel_rfl
      · kernel_rfl
      · kernel_rfl
      · exact fun _ _ _ h => h
      · refine Or.inl ⟨by rfl, ?_⟩; intro w hSw; (try dsimp only at hSw); go_simp; (try with_reducible rfl)
      · assumption
      try simp only [Act.put, sA, sB, sC]
      refine wpAnyH_take (i := 20) (oi := ?_) (v := ?_) ?_ ?_ ?_ ?_ ?_ ?_ ?_ ?_
      rotate_left 2
      · simp only [gA, gB, gC]; rfl
      · kernel_rfl
      · kernel_rfl
      · kernel_rfl
      · exact fun _ _ _ h => h
      · refine Or.inl ⟨by rfl, ?_⟩; intro w hSw; (try dsimp only at hSw); go_simp; (try with_reducible rfl)
      · assumption
      try simp only [Act.put, sA, sB, sC]
      refine wpAnyH_take (i := 21) (oi := ?_) (v := ?_) ?_ ?_ ?_ ?_ ?_ ?_ ?_ ?_
      rotate_left 2
      · simp only [gA, gB, gC]; rfl
      · kernel_rfl
      · kernel_rfl
      · kernel_rfl
      · exact fun _ _ _ h => h
      · refine Or.inl ⟨by rfl, ?_⟩; intro w hSw; (try dsimp only at hSw); go_simp; (try with_reducible rfl)
      · assumption
      try simp only [Act.put, sA, sB, sC]
      refine wpAnyH_take (i := 22) (oi := ?_) (v := ?_) ?_ ?_ ?_ ?_ ?_ ?_ ?_ ?_
      rotate_left 2
      · simp only [gA, gB, gC]; rfl
      · kernel_rfl
      · kernel_rfl
      · kernel_rfl
      · exact fun _ _ _ h => h
      · refine Or.inl ⟨by rfl, ?_⟩; intro w hSw; (try dsimp only at hSw); go_simp; (try with_reducible rfl)
      · assumption
      try simp only [Act.put, sA, sB, sC]
      refine wpAnyH_ready (rs := [23]) (by kernel_rfl) (by simp) ?_
      refine AllReadyH.cons (o := ?_) ?_ (fun K hK => ?_) AllReadyH.nil
      rotate_left
      · simp only [gA, gB, gC]; rfl
      go_simp
      (go_at_call 56; refine (HIN.out _).mono ?_; rintro e w3 ⟨rfl, rfl⟩)
      go_wp2_with fail
      refine hK.out _ _ ?_ (fun hHeld => ?_)
      · exact HKEEP.out _ hk2
      clear hK K
      try simp only [Act.put, sA, sB, sC]
      refine wpAnyH_take (i := 24) (oi := ?_) (v := ?_) ?_ ?_ ?_ ?_ ?_ ?_ ?_ ?_
      rotate_left 2
      · simp only [gA, gB, gC]; rfl
      · kernel_rfl
      · kernel_rfl
      · kernel_rfl
      · exact fun _ _ _ h => h
      · refine Or.inl ⟨by rfl, ?_⟩; intro w hSw; (try dsimp only at hSw); go_simp; (try with_reducible rfl)
      · assumption
      try simp only [Act.put, sA, sB, sC]
      refine wpAnyH_take (i := 25) (oi := ?_) (v := ?_) ?_ ?_ ?_ ?_ ?_ ?_ ?_ ?_
      rotate_left 2
      · simp only [gA, gB, gC]; rfl
      · kernel_rfl
      · kernel_rfl
      · kernel_rfl
      · exact fun _ _ _ h => h
      · refine Or.inl ⟨by rfl, ?_⟩; intro w hSw; (try dsimp only at hSw); go_simp; (try with_reducible rfl)
      · assumption
      try simp only [Act.put, sA, sB, sC]
      refine wpAnyH_done (by kernel_rfl) ?_ _
      have HX2 := Lib.hid (HX.out.trans hk2)
      clear hw1 hw2 hw3 hyy p0 p1 p2 hz0 he0
      go_wp2_with fail
      go_roundg (g1 - 1)
      case measure => have := HK.out; omega
      case rel => exact ⟨k + 1, Lib.hid (by have := HK.out; omega), by go_num, HX2⟩
    · have hkm : m = k := by have := HK.out; omega
      subst hkm
      go_wp2_with fail
      go_ret
      exact ⟨rfl, HX0.out.trans HX.out⟩
end
end Go.Proofs.YtgohdmnbnhehnaaGreat
