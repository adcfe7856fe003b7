import Derived.Test.YtgohdmnbnhehnaaGreatBalAllG15
namespace Go.Proofs.YtgohdmnbnhehnaaGreat
set_option linter.unusedVariables false
set_option linter.unusedSimpArgs false
set_option maxRecDepth 100000
open Go.RowKit
theorem cmpR_zero {v : Int × Int} (hv : valR v = true) : decide (0 ≤ cmpR (0, 1) v) = decide (v.1 ≤ 0) := by
  have hb := valR_bd hv
  unfold cmpR
  rw [if_pos (by rw [hv]; decide)]
  simp only
  by_cases h : v.1 ≤ 0
  · rw [if_neg (by omega), decide_eq_true h]
    split <;> rfl
  · rw [if_pos (by omega), decide_eq_false h]; rfl
theorem boundS_zero (A : List (List Int)) (Y : List (Int × Int)) {n : Nat} {D : List (Int × Int)} (hD : ∀ j, j < n → D[j]?.getD (0, 0) = (0, 1)) : (List.range n).all (boundS A Y D) = (List.range n).all (noF A Y) := by
  rw [Bool.eq_iff_iff, List.all_eq_true, List.all_eq_true]
  have key : ∀ j, j < n → boundS A Y D j = noF A Y j := by
    intro j hj
    unfold boundS noF noO
    rw [hD j hj]
    cases hd : dotL Y (wholeL (colL A j)) with
    | none => rfl
    | some v => exact cmpR_zero (dotL_spec hd).2.1
  constructor
  · intro h j hj; rw [← key j (List.mem_range.1 hj)]; exact h j hj
  · intro h j hj; rw [key j (List.mem_range.1 hj)]; exact h j hj
theorem replR_at {n j : Nat} (h : j < n) : (List.replicate n ((0 : Int), (1 : Int)))[j]?.getD (0, 0) = (0, 1) := by rw [List.getElem?_replicate, if_pos h]; rfl
section
variable {w : World} {a : Option Addr} {na ca : Nat} {b : Option Addr} {nb cb : Nat} {c : Option Addr} {nc cc : Nat} {A : List (List Int)} {B : List Int} {C : List (Int × Int)}
  {xa : Option Addr} {xn xc : Nat} {ya : Option Addr} {yn yc : Nat} {ra : Option Addr} {rn rc : Nat} {r : LpR}
set_option maxHeartbeats 16000000 in
theorem s_CheckLP1 (h : LpC w a na ca b nb cb c nc cc A B C) (h' : LrC w xa xn xc ya yn yc ra rn rc r) (ok : okLP A B C = true) (hs : r.status = 1) :
    Calls Tryz.prog 131 #[lpW a na ca b nb cb c nc cc, lrW r xa xn xc ya yn yc ra rn rc] w fun e w' => e = .returned (.bool (checkG boundS A B C r)) ∧ Ext w w' := by
  obtain ⟨r1, r2, r3, r4, r5, r6⟩ := okLP_rows h ok
  subst r3
  have T0 := Lib.hid (show Two w ((w.alloc (lpBox a nb ca b nb cb c nc cc)).alloc (lrBox r xa xn xc ya yn yc ra rn rc)) a nb ca b nb cb c nc cc xa xn xc ya yn yc ra rn rc r A B C from ⟨Ext.refl _, (h.ext (Ext.alloc _ _)).ext (Ext.alloc _ _), (h'.ext (Ext.alloc _ _)).ext (Ext.alloc _ _)⟩)
  have hy1 := h'.y.hcap
  have hy2 := h'.y.hmax
  have hr1 := h'.ray.hcap
  have hr2 := h'.ray.hmax
  have hc1 := h.c.hcap
  have hc2 := h.c.hmax
  have hb1 := h.b.hcap
  have hb2 := h.b.hmax
  have HOK := Lib.hid ok
  have HFB6 := Lib.hid (fitL_small r6)
  have HR5 := Lib.hid r5
  obtain ⟨st, rX, rY, rr, rv, rp⟩ := r
  obtain ⟨v1, v2⟩ := rv
  simp only at hs
  subst hs
  have HLY := Lib.hid h'.y.hlen
  have HLB := Lib.hid h.b.hlen
  have HLC := Lib.hid h.c.hlen
  have HLR := Lib.hid h'.ray.hlen
  have HV := Lib.hid (s_IsValidLP T0.out.lp)
  rw [ok] at HV
  obtain ⟨V, hV⟩ : ∃ v, v = checkG boundS A B C ⟨1, rX, rY, rr, (v1, v2), rp⟩ := ⟨_, rfl⟩
  rw [← hV]
  have HVE := Lib.hid (show V = optS A B C ⟨1, rX, rY, rr, (v1, v2), rp⟩ by rw [hV]; unfold checkG optS; rw [if_pos rfl])
  have HOP := Lib.hid (fun (W : World) (t : Two w W a nb ca b nb cb c nc cc xa xn xc ya yn yc ra rn rc ⟨1, rX, rY, rr, (v1, v2), rp⟩ A B C) => s_l5Optimal t.lp t.lr HOK.out)
  simp only [← HVE.out] at HOP
  clear h h' ok r4 r5 r6
  clear hV
  go_enter Tryz.func131, Tryz.ntmps131
  obtain ⟨p0, p1, p2⟩ := T0.out.p
  obtain ⟨q0, q1, q2, q3, q4, q5⟩ := T0.out.q
  go_wp2_with fail
  refine HV.out.mono ?_
  rintro e w1 ⟨rfl, hx⟩
  have T1 := Lib.hid (T0.out.grow hx)
  clear hx p0 p1 p2 q0 q1 q2 q3 q4 q5
  obtain ⟨p0, p1, p2⟩ := T1.out.p
  obtain ⟨q0, q1, q2, q3, q4, q5⟩ := T1.out.q
  have T1F := Lib.hid (T1.out.ext.cellSome (v := .int .i64 rp) (a := ⟨w.heap.size + 1, 6, none⟩) (by simp))
  have q6 := T1F.out
  go_wp2_with fail
  refine (HOP.out _ T1.out).mono ?_
  rintro e w2 ⟨rfl, hx⟩
  have T2 := Lib.hid (T1.out.grow hx)
  clear hx p0 p1 p2 q0 q1 q2 q3 q4 q5 q6
  go_wp2_with fail
  go_ret
  exact ⟨rfl, T2.out.all⟩
set_option maxHeartbeats 16000000 in
theorem s_CheckLP2 (h : LpC w a na ca b nb cb c nc cc A B C) (h' : LrC w xa xn xc ya yn yc ra rn rc r) (ok : okLP A B C = true) (hs : r.status = 2) :
    Calls Tryz.prog 131 #[lpW a na ca b nb cb c nc cc, lrW r xa xn xc ya yn yc ra rn rc] w fun e w' => e = .returned (.bool (checkG boundS A B C r)) ∧ Ext w w' := by
  obtain ⟨r1, r2, r3, r4, r5, r6⟩ := okLP_rows h ok
  subst r3
  have T0 := Lib.hid (show Two w ((w.alloc (lpBox a nb ca b nb cb c nc cc)).alloc (lrBox r xa xn xc ya yn yc ra rn rc)) a nb ca b nb cb c nc cc xa xn xc ya yn yc ra rn rc r A B C from ⟨Ext.refl _, (h.ext (Ext.alloc _ _)).ext (Ext.alloc _ _), (h'.ext (Ext.alloc _ _)).ext (Ext.alloc _ _)⟩)
  have hy1 := h'.y.hcap
  have hy2 := h'.y.hmax
  have hr1 := h'.ray.hcap
  have hr2 := h'.ray.hmax
  have hc1 := h.c.hcap
  have hc2 := h.c.hmax
  have hb1 := h.b.hcap
  have hb2 := h.b.hmax
  have HOK := Lib.hid ok
  have HFB6 := Lib.hid (fitL_small r6)
  have HR5 := Lib.hid r5
  obtain ⟨st, rX, rY, rr, rv, rp⟩ := r
  obtain ⟨v1, v2⟩ := rv
  simp only at hs
  subst hs
  have HLY := Lib.hid h'.y.hlen
  have HLB := Lib.hid h.b.hlen
  have HLC := Lib.hid h.c.hlen
  have HLR := Lib.hid h'.ray.hlen
  have HV := Lib.hid (s_IsValidLP T0.out.lp)
  rw [ok] at HV
  obtain ⟨V, hV⟩ : ∃ v, v = checkG boundS A B C ⟨2, rX, rY, rr, (v1, v2), rp⟩ := ⟨_, rfl⟩
  rw [← hV]
  obtain ⟨dv, hdv⟩ : ∃ d, d = (List.range C.length).all (boundS A rY (List.replicate nc (0, 1))) := ⟨_, rfl⟩
  obtain ⟨dy, hdy⟩ : ∃ d, d = dotL (wholeL B) rY := ⟨_, rfl⟩
  have HVE := Lib.hid (show V = (decide (yn = nb) && (dv && posO dy)) by
    rw [hV, hdv, hdy]; unfold checkG; rw [if_neg (by simp), if_pos rfl]; simp only; rw [proofNo_eq, HLB.out, show rY.length = yn from HLY.out, dotL_comm rY, boundS_zero A rY (fun j hj => replR_at (by rw [← HLC.out]; exact hj))])
  have HDU := Lib.hid (fun (W : World) (t : Two w W a nb ca b nb cb c nc cc xa xn xc ya yn yc ra rn rc ⟨2, rX, rY, rr, (v1, v2), rp⟩ A B C) (za : Option Addr) (zn zc : Nat) (hz : Rats W za zn zc (List.replicate nc (0, 1))) (hzn : nc ≤ zn) => s_l5Dual t.lp HOK.out t.lr.y hz hzn)
  have HDY := Lib.hid (fun (W : World) (t : Two w W a nb ca b nb cb c nc cc xa xn xc ya yn yc ra rn rc ⟨2, rX, rY, rr, (v1, v2), rp⟩ A B C) => s_l5Dot t.lp.b HFB6.out (by omega) t.lr.y)
  simp only [← hdv] at HDU
  simp only [← hdy] at HDY
  obtain ⟨y1, y2, yok, hyy⟩ : ∃ y1 y2 yok, optR dy = ((y1, y2), yok) := ⟨_, _, _, rfl⟩
  simp only [hyy] at HDY
  have HYY := Lib.hid (show posO dy = (yok && decide (0 < y1)) by
    cases dy with
    | none => simp only [optR] at hyy; cases hyy; rfl
    | some v => obtain ⟨z1, z2⟩ := v; simp only [optR, Option.getD_some, Option.isSome_some, Prod.mk.injEq] at hyy; obtain ⟨⟨rfl, rfl⟩, rfl⟩ := hyy; rfl)
  clear h h' ok r4 r5 r6
  clear hV hdv hdy hyy
  have HS1 : ((2 : Int) == 1) = false := by decide
  go_enter Tryz.func131, Tryz.ntmps131
  obtain ⟨p0, p1, p2⟩ := T0.out.p
  obtain ⟨q0, q1, q2, q3, q4, q5⟩ := T0.out.q
  go_wp2_with fail
  refine HV.out.mono ?_
  rintro e w1 ⟨rfl, hx⟩
  have T1 := Lib.hid (T0.out.grow hx)
  clear hx p0 p1 p2 q0 q1 q2 q3 q4 q5
  obtain ⟨p0, p1, p2⟩ := T1.out.p
  obtain ⟨q0, q1, q2, q3, q4, q5⟩ := T1.out.q
  go_wp2_with fail
  refine (HDY.out _ T1.out).mono ?_
  rintro e w2 ⟨rfl, hx⟩
  obtain ⟨E, hE⟩ : ∃ E, E = w2.alloc (.cells #[.int .i64 y1, .int .i64 y2] 85) := ⟨_, rfl⟩
  obtain ⟨gx, hgx⟩ : ∃ g, g = w2.heap.size := ⟨_, rfl⟩
  have hxE : Ext w2 E := by rw [hE]; exact Ext.alloc _ _
  have TE := Lib.hid ((T1.out.grow hx).grow hxE)
  have HB0 := Lib.hid (show Boxed w2 E gx y1 y2 by rw [hE, hgx]; exact Boxed.new (Ext.refl _) _ _)
  go_upto_region 8 with fail
  rw [← hE, ← hgx]
  clear hE hxE hx hgx p0 p1 p2 q0 q1 q2 q3 q4 q5
  obtain ⟨p0, p1, p2⟩ := TE.out.p
  obtain ⟨q0, q1, q2, q3, q4, q5⟩ := TE.out.q
  have b0 := HB0.out.c0
  have b1 := HB0.out.c1
  have hk2 : Ext E E.drew := Ext.drew E
  have HKEEP := Lib.hid (fun (w' : World) (h : Ext E w') => (⟨h.cellSome p0, h.cellSome p1, h.cellSome p2, h.cellSome q2, h.cellSome b0, h.cellSome b1, h⟩ : w'.cell? ⟨w.heap.size, 0, none⟩ = some (.slice a nb ca) ∧ w'.cell? ⟨w.heap.size, 1, none⟩ = some (.slice b nb cb) ∧ w'.cell? ⟨w.heap.size, 2, none⟩ = some (.slice c nc cc) ∧ w'.cell? ⟨w.heap.size + 1, 2, none⟩ = some (.slice ya yn yc) ∧ w'.cell? ⟨gx, 0, none⟩ = some (.int .i64 y1) ∧ w'.cell? ⟨gx, 1, none⟩ = some (.int .i64 y2) ∧ Ext E w'))
  by_cases hyn : yn = nb
  · have hne : ((yn : Int) == (nb : Int)) = true := by simp; omega
    have HYN := Lib.hid hyn
    clear hyn
    cases dv
    · have HZ := Lib.hid (show false = V by rw [HVE.out]; simp)
      refine wp_region_held_drew (S := (fun w' => w'.cell? ⟨w.heap.size, 0, none⟩ = some (.slice a nb ca) ∧ w'.cell? ⟨w.heap.size, 1, none⟩ = some (.slice b nb cb) ∧ w'.cell? ⟨w.heap.size, 2, none⟩ = some (.slice c nc cc) ∧ w'.cell? ⟨w.heap.size + 1, 2, none⟩ = some (.slice ya yn yc) ∧ w'.cell? ⟨gx, 0, none⟩ = some (.int .i64 y1) ∧ w'.cell? ⟨gx, 1, none⟩ = some (.int .i64 y2) ∧ Ext E w')) (by kernel_rfl) ?_ (fun hHeld => ?_)
      · exact HKEEP.out _ hk2
      refine wpAnyH_take (i := 0) (oi := ?_) (v := ?_) ?_ ?_ ?_ ?_ ?_ ?_ ?_ ?_
      rotate_left 2
      · simp only [gA, gB, gC]; rfl
      · kernel_rfl
      · kernel_rfl
      · kernel_rfl
      · exact fun _ _ _ h => h
      · refine Or.inl ⟨by rfl, ?_⟩; intro w hSw; (try dsimp only at hSw); go_simp; (try with_reducible rfl)
      · assumption
      try simp only [Act.put, sA, sB, sC]
      refine wpAnyH_take (i := 1) (oi := ?_) (v := ?_) ?_ ?_ ?_ ?_ ?_ ?_ ?_ ?_
      rotate_left 2
      · simp only [gA, gB, gC]; rfl
      · kernel_rfl
      · kernel_rfl
      · kernel_rfl
      · exact fun _ _ _ h => h
      · refine Or.inl ⟨by rfl, ?_⟩; intro w hSw; (try dsimp only at hSw); go_simp; (try with_reducible rfl)
      · assumption
      try simp only [Act.put, sA, sB, sC]
      refine wpAnyH_take (i := 2) (oi := ?_) (v := ?_) ?_ ?_ ?_ ?_ ?_ ?_ ?_ ?_
      rotate_left 2
      · simp only [gA, gB, gC]; rfl
      · kernel_rfl
      · kernel_rfl
      · kernel_rfl
      · exact fun _ _ _ h => h
      · refine Or.inl ⟨by rfl, ?_⟩; intro w hSw; (try dsimp only at hSw); go_simp; (try with_reducible rfl)
      · assumption
      try simp only [Act.put, sA, sB, sC]
      refine wpAnyH_take (i := 3) (oi := ?_) (v := ?_) ?_ ?_ ?_ ?_ ?_ ?_ ?_ ?_
      rotate_left 2
      · simp only [gA, gB, gC]; rfl
      · kernel_rfl
      · kernel_rfl
      · kernel_rfl
      · exact fun _ _ _ h => h
      · refine Or.inl ⟨by rfl, ?_⟩; intro w hSw; (try dsimp only at hSw); go_simp; (try with_reducible rfl)
      · assumption
      try simp only [Act.put, sA, sB, sC]
      refine wpAnyH_take (i := 4) (oi := ?_) (v := ?_) ?_ ?_ ?_ ?_ ?_ ?_ ?_ ?_
      rotate_left 2
      · simp only [gA, gB, gC]; rfl
      · kernel_rfl
      · kernel_rfl
      · kernel_rfl
      · exact fun _ _ _ h => h
      · refine Or.inl ⟨by rfl, ?_⟩; intro w hSw; (try dsimp only at hSw); go_simp; (try with_reducible rfl)
      · assumption
      try simp only [Act.put, sA, sB, sC]
      refine wpAnyH_take (i := 5) (oi := ?_) (v := ?_) ?_ ?_ ?_ ?_ ?_ ?_ ?_ ?_
      rotate_left 2
      · simp only [gA, gB, gC]; rfl
      · kernel_rfl
      · kernel_rfl
      · kernel_rfl
      · exact fun _ _ _ h => h
      · refine Or.inl ⟨by rfl, ?_⟩; intro w hSw; (try dsimp only at hSw); go_simp; (try with_reducible rfl)
      · assumption
      try simp only [Act.put, sA, sB, sC]
      refine wpAnyH_take (i := 6) (oi := ?_) (v := ?_) ?_ ?_ ?_ ?_ ?_ ?_ ?_ ?_
      rotate_left 2
      · simp only [gA, gB, gC]; rfl
      · kernel_rfl
      · kernel_rfl
      · kernel_rfl
      · exact fun _ _ _ h => h
      · refine Or.inl ⟨by rfl, ?_⟩; intro w hSw; (try dsimp only at hSw); go_simp; (try with_reducible rfl)
      · assumption
      try simp only [Act.put, sA, sB, sC]
      refine wpAnyH_take (i := 7) (oi := ?_) (v := ?_) ?_ ?_ ?_ ?_ ?_ ?_ ?_ ?_
      rotate_left 2
      · simp only [gA, gB, gC]; rfl
      · kernel_rfl
      · kernel_rfl
      · kernel_rfl
      · exact fun _ _ _ h => h
      · refine Or.inl ⟨by rfl, ?_⟩; intro w hSw; (try dsimp only at hSw); go_simp; (try with_reducible rfl)
      · assumption
      try simp only [Act.put, sA, sB, sC]
      refine wpAnyH_take (i := 8) (oi := ?_) (v := ?_) ?_ ?_ ?_ ?_ ?_ ?_ ?_ ?_
      rotate_left 2
      · simp only [gA, gB, gC]; rfl
      · kernel_rfl
      · kernel_rfl
      · kernel_rfl
      · exact fun _ _ _ h => h
      · refine Or.inl ⟨by rfl, ?_⟩; intro w hSw; (try dsimp only at hSw); go_simp; (try with_reducible rfl)
      · assumption
      try simp only [Act.put, sA, sB, sC]
      refine wpAnyH_take (i := 9) (oi := ?_) (v := ?_) ?_ ?_ ?_ ?_ ?_ ?_ ?_ ?_
      rotate_left 2
      · simp only [gA, gB, gC]; rfl
      · kernel_rfl
      · kernel_rfl
      · kernel_rfl
      · exact fun _ _ _ h => h
      · refine Or.inl ⟨by rfl, ?_⟩; intro w hSw; (try dsimp only at hSw); go_simp; (try with_reducible rfl)
      · assumption
      try simp only [Act.put, sA, sB, sC]
      refine wpAnyH_take (i := 10) (oi := ?_) (v := ?_) ?_ ?_ ?_ ?_ ?_ ?_ ?_ ?_
      rotate_left 2
      · simp only [gA, gB, gC]; rfl
      · kernel_rfl
      · kernel_rfl
      · kernel_rfl
      · exact fun _ _ _ h => h
      · refine Or.inl ⟨by rfl, ?_⟩; intro w hSw; (try dsimp only at hSw); go_simp; (try with_reducible rfl)
      · assumption
      try simp only [Act.put, sA, sB, sC]
      refine wpAnyH_take (i := 11) (oi := ?_) (v := ?_) ?_ ?_ ?_ ?_ ?_ ?_ ?_ ?_
      rotate_left 2
      · simp only [gA, gB, gC]; rfl
      · kernel_rfl
      · kernel_rfl
      · kernel_rfl
      · exact fun _ _ _ h => h
      · refine Or.inl ⟨by rfl, ?_⟩; intro w hSw; (try dsimp only at hSw); go_simp; (try with_reducible rfl)
      · assumption
      try simp only [Act.put, sA, sB, sC]
      refine wpAnyH_take (i := 12) (oi := ?_) (v := ?_) ?_ ?_ ?_ ?_ ?_ ?_ ?_ ?_
      rotate_left 2
      · simp only [gA, gB, gC]; rfl
      · kernel_rfl
      · kernel_rfl
      · kernel_rfl
      · exact fun _ _ _ h => h
      · refine Or.inl ⟨by rfl, ?_⟩; intro w hSw; (try dsimp only at hSw); go_simp; (try with_reducible rfl)
      · assumption
      try simp only [Act.put, sA, sB, sC]
      refine wpAnyH_take (i := 13) (oi := ?_) (v := ?_) ?_ ?_ ?_ ?_ ?_ ?_ ?_ ?_
      rotate_left 2
      · simp only [gA, gB, gC]; rfl
      · kernel_rfl
      · kernel_rfl
      · kernel_rfl
      · exact fun _ _ _ h => h
      · refine Or.inl ⟨by rfl, ?_⟩; intro w hSw; (try dsimp only at hSw); go_simp; (try with_reducible rfl)
      · assumption
      try simp only [Act.put, sA, sB, sC]
      refine wpAnyH_ready (rs := [14]) (by kernel_rfl) (by simp) ?_
      refine AllReadyH.cons (o := ?_) ?_ (fun K hK => ?_) AllReadyH.nil
      rotate_left
      · simp only [gA, gB, gC]; rfl
      go_simp
      (go_at_call 57; refine (s_l5Zeros nc (by omega)).mono ?_; rintro e w3 ⟨⟨v3, rfl, ho3⟩, hx3⟩; have hk2 := hk2.trans hx3; obtain ⟨a3, n3, c3, rfl, hn3⟩ := ho3.var; have hn4 : nc ≤ n3 := by (have h1 := hn3.out; rw [List.length_replicate] at h1; omega))
      go_wp2_with fail
      refine hK.out _ _ ?_ (fun hHeld => ?_)
      · exact HKEEP.out _ hk2
      clear hK K
      try simp only [Act.put, sA, sB, sC]
      refine wpAnyH_ready (rs := [15]) (by kernel_rfl) (by simp) ?_
      refine AllReadyH.cons (o := ?_) ?_ (fun K hK => ?_) AllReadyH.nil
      rotate_left
      · simp only [gA, gB, gC]; rfl
      go_simp
      (go_at_call 181; refine (HDU.out _ (TE.out.grow hk2) _ _ _ ho3.rats hn4).mono ?_; rintro e w4 ⟨rfl, hx4⟩; have hk2 := hk2.trans hx4)
      go_wp2_with fail
      refine hK.out _ _ ?_ (fun hHeld => ?_)
      · exact HKEEP.out _ hk2
      clear hK K
      try simp only [Act.put, sA, sB, sC]
      refine wpAnyH_take (i := 16) (oi := ?_) (v := ?_) ?_ ?_ ?_ ?_ ?_ ?_ ?_ ?_
      rotate_left 2
      · simp only [gA, gB, gC]; rfl
      · kernel_rfl
      · kernel_rfl
      · kernel_rfl
      · exact fun _ _ _ h => h
      · refine Or.inl ⟨by rfl, ?_⟩; intro w hSw; (try dsimp only at hSw); go_simp; (try with_reducible rfl)
      · assumption
      try simp only [Act.put, sA, sB, sC]
      refine wpAnyH_take (i := 17) (oi := ?_) (v := ?_) ?_ ?_ ?_ ?_ ?_ ?_ ?_ ?_
      rotate_left 2
      · simp only [gA, gB, gC]; rfl
      · kernel_rfl
      · kernel_rfl
      · kernel_rfl
      · exact fun _ _ _ h => h
      · refine Or.inl ⟨by rfl, ?_⟩; intro w hSw; (try dsimp only at hSw); go_simp; (try with_reducible rfl)
      · assumption
      try simp only [Act.put, sA, sB, sC]
      refine wpAnyH_take (i := 18) (oi := ?_) (v := undef) ?_ ?_ ?_ ?_ ?_ ?_ ?_ ?_
      rotate_left
      · simp only [gA, gB, gC]; rfl
      · kernel_rfl
      · kernel_rfl
      · kernel_rfl
      · exact fun _ _ _ h => h
      · exact Or.inr ⟨by rfl, rfl⟩
      · assumption
      try simp only [Act.put, sA, sB, sC]
      refine wpAnyH_take (i := 19) (oi := ?_) (v := ?_) ?_ ?_ ?_ ?_ ?_ ?_ ?_ ?_
      rotate_left 2
      · simp only [gA, gB, gC]; rfl
      · kernel_rfl
      · kernel_rfl
      · kernel_rfl
      · exact fun _ _ _ h => h
      · refine Or.inl ⟨by rfl, ?_⟩; intro w hSw; (try dsimp only at hSw); go_simp; (try with_reducible rfl)
      · assumption
      try simp only [Act.put, sA, sB, sC]
      refine wpAnyH_take (i := 20) (oi := ?_) (v := ?_) ?_ ?_ ?_ ?_ ?_ ?_ ?_ ?_
      rotate_left 2
      · simp only [gA, gB, gC]; rfl
      · kernel_rfl
      · kernel_rfl
      · kernel_rfl
      · exact fun _ _ _ h => h
      · refine Or.inl ⟨by rfl, ?_⟩; intro w hSw; (try dsimp only at hSw); go_simp; (try with_reducible rfl)
      · assumption
      try simp only [Act.put, sA, sB, sC]
      refine wpAnyH_take (i := 21) (oi := ?_) (v := undef) ?_ ?_ ?_ ?_ ?_ ?_ ?_ ?_
      rotate_left
      · simp only [gA, gB, gC]; rfl
      · kernel_rfl
      · kernel_rfl
      · kernel_rfl
      · exact fun _ _ _ h => h
      · exact Or.inr ⟨by rfl, rfl⟩
      · assumption
      try simp only [Act.put, sA, sB, sC]
      refine wpAnyH_take (i := 22) (oi := ?_) (v := undef) ?_ ?_ ?_ ?_ ?_ ?_ ?_ ?_
      rotate_left
      · simp only [gA, gB, gC]; rfl
      · kernel_rfl
      · kernel_rfl
      · kernel_rfl
      · exact fun _ _ _ h => h
      · exact Or.inr ⟨by rfl, rfl⟩
      · assumption
      try simp only [Act.put, sA, sB, sC]
      refine wpAnyH_take (i := 23) (oi := ?_) (v := undef) ?_ ?_ ?_ ?_ ?_ ?_ ?_ ?_
      rotate_left
      · simp only [gA, gB, gC]; rfl
      · kernel_rfl
      · kernel_rfl
      · kernel_rfl
      · exact fun _ _ _ h => h
      · exact Or.inr ⟨by rfl, rfl⟩
      · assumption
      try simp only [Act.put, sA, sB, sC]
      refine wpAnyH_take (i := 24) (oi := ?_) (v := ?_) ?_ ?_ ?_ ?_ ?_ ?_ ?_ ?_
      rotate_left 2
      · simp only [gA, gB, gC]; rfl
      · kernel_rfl
      · kernel_rfl
      · kernel_rfl
      · exact fun _ _ _ h => h
      · refine Or.inl ⟨by rfl, ?_⟩; intro w hSw; (try dsimp only at hSw); go_simp; (try with_reducible rfl)
      · assumption
      try simp only [Act.put, sA, sB, sC]
      refine wpAnyH_take (i := 25) (oi := ?_) (v := ?_) ?_ ?_ ?_ ?_ ?_ ?_ ?_ ?_
      rotate_left 2
      · simp only [gA, gB, gC]; rfl
      · kernel_rfl
      · kernel_rfl
      · kernel_rfl
      · exact fun _ _ _ h => h
      · refine Or.inl ⟨by rfl, ?_⟩; intro w hSw; (try dsimp only at hSw); go_simp; (try with_reducible rfl)
      · assumption
      try simp only [Act.put, sA, sB, sC]
      refine wpAnyH_done (by kernel_rfl) ?_ _
      go_wp2_with fail
      go_ret
      exact ⟨ret_bool HZ.out, (TE.out.grow hk2).all⟩
    · cases yok
      · have HZ := Lib.hid (show false = V by rw [HVE.out, HYY.out, decide_eq_true HYN.out]; simp)
        refine wp_region_held_drew (S := (fun w' => w'.cell? ⟨w.heap.size, 0, none⟩ = some (.slice a nb ca) ∧ w'.cell? ⟨w.heap.size, 1, none⟩ = some (.slice b nb cb) ∧ w'.cell? ⟨w.heap.size, 2, none⟩ = some (.slice c nc cc) ∧ w'.cell? ⟨w.heap.size + 1, 2, none⟩ = some (.slice ya yn yc) ∧ w'.cell? ⟨gx, 0, none⟩ = some (.int .i64 y1) ∧ w'.cell? ⟨gx, 1, none⟩ = some (.int .i64 y2) ∧ Ext E w')) (by kernel_rfl) ?_ (fun hHeld => ?_)
        · exact HKEEP.out _ hk2
        refine wpAnyH_take (i := 0) (oi := ?_) (v := ?_) ?_ ?_ ?_ ?_ ?_ ?_ ?_ ?_
        rotate_left 2
        · simp only [gA, gB, gC]; rfl
        · kernel_rfl
        · kernel_rfl
        · kernel_rfl
        · exact fun _ _ _ h => h
        · refine Or.inl ⟨by rfl, ?_⟩; intro w hSw; (try dsimp only at hSw); go_simp; (try with_reducible rfl)
        · assumption
        try simp only [Act.put, sA, sB, sC]
        refine wpAnyH_take (i := 1) (oi := ?_) (v := ?_) ?_ ?_ ?_ ?_ ?_ ?_ ?_ ?_
        rotate_left 2
        · simp only [gA, gB, gC]; rfl
        · kernel_rfl
        · kernel_rfl
        · kernel_rfl
        · exact fun _ _ _ h => h
        · refine Or.inl ⟨by rfl, ?_⟩; intro w hSw; (try dsimp only at hSw); go_simp; (try with_reducible rfl)
        · assumption
        try simp only [Act.put, sA, sB, sC]
        refine wpAnyH_take (i := 2) (oi := ?_) (v := ?_) ?_ ?_ ?_ ?_ ?_ ?_ ?_ ?_
        rotate_left 2
        · simp only [gA, gB, gC]; rfl
        · kernel_rfl
        · kernel_rfl
        · kernel_rfl
        · exact fun _ _ _ h => h
        · refine Or.inl ⟨by rfl, ?_⟩; intro w hSw; (try dsimp only at hSw); go_simp; (try with_reducible rfl)
        · assumption
        try simp only [Act.put, sA, sB, sC]
        refine wpAnyH_take (i := 3) (oi := ?_) (v := ?_) ?_ ?_ ?_ ?_ ?_ ?_ ?_ ?_
        rotate_left 2
        · simp only [gA, gB, gC]; rfl
        · kernel_rfl
        · kernel_rfl
        · kernel_rfl
        · exact fun _ _ _ h => h
        · refine Or.inl ⟨by rfl, ?_⟩; intro w hSw; (try dsimp only at hSw); go_simp; (try with_reducible rfl)
        · assumption
        try simp only [Act.put, sA, sB, sC]
        refine wpAnyH_take (i := 4) (oi := ?_) (v := ?_) ?_ ?_ ?_ ?_ ?_ ?_ ?_ ?_
        rotate_left 2
        · simp only [gA, gB, gC]; rfl
        · kernel_rfl
        · kernel_rfl
        · kernel_rfl
        · exact fun _ _ _ h => h
        · refine Or.inl ⟨by rfl, ?_⟩; intro w hSw; (try dsimp only at hSw); go_simp; (try with_reducible rfl)
        · assumption
        try simp only [Act.put, sA, sB, sC]
        refine wpAnyH_take (i := 5) (oi := ?_) (v := ?_) ?_ ?_ ?_ ?_ ?_ ?_ ?_ ?_
        rotate_left 2
        · simp only [gA, gB, gC]; rfl
        · kernel_rfl
        · kernel_rfl
        · kernel_rfl
        · exact fun _ _ _ h => h
        · refine Or.inl ⟨by rfl, ?_⟩; intro w hSw; (try dsimp only at hSw); go_simp; (try with_reducible rfl)
        · assumption
        try simp only [Act.put, sA, sB, sC]
        refine wpAnyH_take (i := 6) (oi := ?_) (v := ?_) ?_ ?_ ?_ ?_ ?_ ?_ ?_ ?_
        rotate_left 2
        · simp only [gA, gB, gC]; rfl
        · kernel_rfl
        · kernel_rfl
        · kernel_rfl
        · exact fun _ _ _ h => h
        · refine Or.inl ⟨by rfl, ?_⟩; intro w hSw; (try dsimp only at hSw); go_simp; (try with_reducible rfl)
        · assumption
        try simp only [Act.put, sA, sB, sC]
        refine wpAnyH_take (i := 7) (oi := ?_) (v := ?_) ?_ ?_ ?_ ?_ ?_ ?_ ?_ ?_
        rotate_left 2
        · simp only [gA, gB, gC]; rfl
        · kernel_rfl
        · kernel_rfl
        · kernel_rfl
        · exact fun _ _ _ h => h
        · refine Or.inl ⟨by rfl, ?_⟩; intro w hSw; (try dsimp only at hSw); go_simp; (try with_reducible rfl)
        · assumption
        try simp only [Act.put, sA, sB, sC]
        refine wpAnyH_take (i := 8) (oi := ?_) (v := ?_) ?_ ?_ ?_ ?_ ?_ ?_ ?_ ?_
        rotate_left 2
        · simp only [gA, gB, gC]; rfl
        · kernel_rfl
        · kernel_rfl
        · kernel_rfl
        · exact fun _ _ _ h => h
        · refine Or.inl ⟨by rfl, ?_⟩; intro w hSw; (try dsimp only at hSw); go_simp; (try with_reducible rfl)
        · assumption
        try simp only [Act.put, sA, sB, sC]
        refine wpAnyH_take (i := 9) (oi := ?_) (v := ?_) ?_ ?_ ?_ ?_ ?_ ?_ ?_ ?_
        rotate_left 2
        · simp only [gA, gB, gC]; rfl
        · kernel_rfl
        · kernel_rfl
        · kernel_rfl
        · exact fun _ _ _ h => h
        · refine Or.inl ⟨by rfl, ?_⟩; intro w hSw; (try dsimp only at hSw); go_simp; (try with_reducible rfl)
        · assumption
        try simp only [Act.put, sA, sB, sC]
        refine wpAnyH_take (i := 10) (oi := ?_) (v := ?_) ?_ ?_ ?_ ?_ ?_ ?_ ?_ ?_
        rotate_left 2
        · simp only [gA, gB, gC]; rfl
        · kernel_rfl
        · kernel_rfl
        · kernel_rfl
        · exact fun _ _ _ h => h
        · refine Or.inl ⟨by rfl, ?_⟩; intro w hSw; (try dsimp only at hSw); go_simp; (try with_reducible rfl)
        · assumption
        try simp only [Act.put, sA, sB, sC]
        refine wpAnyH_take (i := 11) (oi := ?_) (v := ?_) ?_ ?_ ?_ ?_ ?_ ?_ ?_ ?_
        rotate_left 2
        · simp only [gA, gB, gC]; rfl
        · kernel_rfl
        · kernel_rfl
        · kernel_rfl
        · exact fun _ _ _ h => h
        · refine Or.inl ⟨by rfl, ?_⟩; intro w hSw; (try dsimp only at hSw); go_simp; (try with_reducible rfl)
        · assumption
        try simp only [Act.put, sA, sB, sC]
        refine wpAnyH_take (i := 12) (oi := ?_) (v := ?_) ?_ ?_ ?_ ?_ ?_ ?_ ?_ ?_
        rotate_left 2
        · simp only [gA, gB, gC]; rfl
        · kernel_rfl
        · kernel_rfl
        · kernel_rfl
        · exact fun _ _ _ h => h
        · refine Or.inl ⟨by rfl, ?_⟩; intro w hSw; (try dsimp only at hSw); go_simp; (try with_reducible rfl)
        · assumption
        try simp only [Act.put, sA, sB, sC]
        refine wpAnyH_take (i := 13) (oi := ?_) (v := ?_) ?_ ?_ ?_ ?_ ?_ ?_ ?_ ?_
        rotate_left 2
        · simp only [gA, gB, gC]; rfl
        · kernel_rfl
        · kernel_rfl
        · kernel_rfl
        · exact fun _ _ _ h => h
        · refine Or.inl ⟨by rfl, ?_⟩; intro w hSw; (try dsimp only at hSw); go_simp; (try with_reducible rfl)
        · assumption
        try simp only [Act.put, sA, sB, sC]
        refine wpAnyH_ready (rs := [14]) (by kernel_rfl) (by simp) ?_
        refine AllReadyH.cons (o := ?_) ?_ (fun K hK => ?_) AllReadyH.nil
        rotate_left
        · simp only [gA, gB, gC]; rfl
        go_simp
        (go_at_call 57; refine (s_l5Zeros nc (by omega)).mono ?_; rintro e w3 ⟨⟨v3, rfl, ho3⟩, hx3⟩; have hk2 := hk2.trans hx3; obtain ⟨a3, n3, c3, rfl, hn3⟩ := ho3.var; have hn4 : nc ≤ n3 := by (have h1 := hn3.out; rw [List.length_replicate] at h1; omega))
        go_wp2_with fail
        refine hK.out _ _ ?_ (fun hHeld => ?_)
        · exact HKEEP.out _ hk2
        clear hK K
        try simp only [Act.put, sA, sB, sC]
        refine wpAnyH_ready (rs := [15]) (by kernel_rfl) (by simp) ?_
        refine AllReadyH.cons (o := ?_) ?_ (fun K hK => ?_) AllReadyH.nil
        rotate_left
        · simp only [gA, gB, gC]; rfl
        go_simp
        (go_at_call 181; refine (HDU.out _ (TE.out.grow hk2) _ _ _ ho3.rats hn4).mono ?_; rintro e w4 ⟨rfl, hx4⟩; have hk2 := hk2.trans hx4)
        go_wp2_with fail
        refine hK.out _ _ ?_ (fun hHeld => ?_)
        · exact HKEEP.out _ hk2
        clear hK K
        try simp only [Act.put, sA, sB, sC]
        refine wpAnyH_take (i := 16) (oi := ?_) (v := ?_) ?_ ?_ ?_ ?_ ?_ ?_ ?_ ?_
        rotate_left 2
        · simp only [gA, gB, gC]; rfl
        · kernel_rfl
        · kernel_rfl
        · kernel_rfl
        · exact fun _ _ _ h => h
        · refine Or.inl ⟨by rfl, ?_⟩; intro w hSw; (try dsimp only at hSw); go_simp; (try with_reducible rfl)
        · assumption
        try simp only [Act.put, sA, sB, sC]
        refine wpAnyH_take (i := 17) (oi := ?_) (v := ?_) ?_ ?_ ?_ ?_ ?_ ?_ ?_ ?_
        rotate_left 2
        · simp only [gA, gB, gC]; rfl
        · kernel_rfl
        · kernel_rfl
        · kernel_rfl
        · exact fun _ _ _ h => h
        · refine Or.inl ⟨by rfl, ?_⟩; intro w hSw; (try dsimp only at hSw); go_simp; (try with_reducible rfl)
        · assumption
        try simp only [Act.put, sA, sB, sC]
        refine wpAnyH_take (i := 18) (oi := ?_) (v := ?_) ?_ ?_ ?_ ?_ ?_ ?_ ?_ ?_
        rotate_left 2
        · simp only [gA, gB, gC]; rfl
        · kernel_rfl
        · kernel_rfl
        · kernel_rfl
        · exact fun _ _ _ h => h
        · refine Or.inl ⟨by rfl, ?_⟩; intro w hSw; (try dsimp only at hSw); go_simp; (try with_reducible rfl)
        · assumption
        try simp only [Act.put, sA, sB, sC]
        refine wpAnyH_take (i := 19) (oi := ?_) (v := ?_) ?_ ?_ ?_ ?_ ?_ ?_ ?_ ?_
        rotate_left 2
        · simp only [gA, gB, gC]; rfl
        · kernel_rfl
        · kernel_rfl
        · kernel_rfl
        · exact fun _ _ _ h => h
        · refine Or.inl ⟨by rfl, ?_⟩; intro w hSw; (try dsimp only at hSw); go_simp; (try with_reducible rfl)
        · assumption
        try simp only [Act.put, sA, sB, sC]
        refine wpAnyH_take (i := 20) (oi := ?_) (v := ?_) ?_ ?_ ?_ ?_ ?_ ?_ ?_ ?_
        rotate_left 2
        · simp only [gA, gB, gC]; rfl
        · kernel_rfl
        · kernel_rfl
        · kernel_rfl
        · exact fun _ _ _ h => h
        · refine Or.inl ⟨by rfl, ?_⟩; intro w hSw; (try dsimp only at hSw); go_simp; (try with_reducible rfl)
        · assumption
        try simp only [Act.put, sA, sB, sC]
        refine wpAnyH_take (i := 21) (oi := ?_) (v := undef) ?_ ?_ ?_ ?_ ?_ ?_ ?_ ?_
        rotate_left
        · simp only [gA, gB, gC]; rfl
        · kernel_rfl
        · kernel_rfl
        · kernel_rfl
        · exact fun _ _ _ h => h
        · exact Or.inr ⟨by rfl, rfl⟩
        · assumption
        try simp only [Act.put, sA, sB, sC]
        refine wpAnyH_take (i := 22) (oi := ?_) (v := undef) ?_ ?_ ?_ ?_ ?_ ?_ ?_ ?_
        rotate_left
        · simp only [gA, gB, gC]; rfl
        · kernel_rfl
        · kernel_rfl
        · kernel_rfl
        · exact fun _ _ _ h => h
        · exact Or.inr ⟨by rfl, rfl⟩
        · assumption
        try simp only [Act.put, sA, sB, sC]
        refine wpAnyH_take (i := 23) (oi := ?_) (v := undef) ?_ ?_ ?_ ?_ ?_ ?_ ?_ ?_
        rotate_left
        · simp only [gA, gB, gC]; rfl
        · kernel_rfl
        · kernel_rfl
        · kernel_rfl
        · exact fun _ _ _ h => h
        · exact Or.inr ⟨by rfl, rfl⟩
        · assumption
        try simp only [Act.put, sA, sB, sC]
        refine wpAnyH_take (i := 24) (oi := ?_) (v := ?_) ?_ ?_ ?_ ?_ ?_ ?_ ?_ ?_
        rotate_left 2
        · simp only [gA, gB, gC]; rfl
        · kernel_rfl
        · kernel_rfl
        · kernel_rfl
        · exact fun _ _ _ h => h
        · refine Or.inl ⟨by rfl, ?_⟩; intro w hSw; (try dsimp only at hSw); go_simp; (try with_reducible rfl)
        · assumption
        try simp only [Act.put, sA, sB, sC]
        refine wpAnyH_take (i := 25) (oi := ?_) (v := ?_) ?_ ?_ ?_ ?_ ?_ ?_ ?_ ?_
        rotate_left 2
        · simp only [gA, gB, gC]; rfl
        · kernel_rfl
        · kernel_rfl
        · kernel_rfl
        · exact fun _ _ _ h => h
        · refine Or.inl ⟨by rfl, ?_⟩; intro w hSw; (try dsimp only at hSw); go_simp; (try with_reducible rfl)
        · assumption
        try simp only [Act.put, sA, sB, sC]
        refine wpAnyH_done (by kernel_rfl) ?_ _
        go_wp2_with fail
        go_ret
        exact ⟨ret_bool HZ.out, (TE.out.grow hk2).all⟩
      · have HZ := Lib.hid (show decide (0 < y1) = V by rw [HVE.out, HYY.out, decide_eq_true HYN.out]; simp)
        refine wp_region_held_drew (S := (fun w' => w'.cell? ⟨w.heap.size, 0, none⟩ = some (.slice a nb ca) ∧ w'.cell? ⟨w.heap.size, 1, none⟩ = some (.slice b nb cb) ∧ w'.cell? ⟨w.heap.size, 2, none⟩ = some (.slice c nc cc) ∧ w'.cell? ⟨w.heap.size + 1, 2, none⟩ = some (.slice ya yn yc) ∧ w'.cell? ⟨gx, 0, none⟩ = some (.int .i64 y1) ∧ w'.cell? ⟨gx, 1, none⟩ = some (.int .i64 y2) ∧ Ext E w')) (by kernel_rfl) ?_ (fun hHeld => ?_)
        · exact HKEEP.out _ hk2
        refine wpAnyH_take (i := 0) (oi := ?_) (v := ?_) ?_ ?_ ?_ ?_ ?_ ?_ ?_ ?_
        rotate_left 2
        · simp only [gA, gB, gC]; rfl
        · kernel_rfl
        · kernel_rfl
        · kernel_rfl
        · exact fun _ _ _ h => h
        · refine Or.inl ⟨by rfl, ?_⟩; intro w hSw; (try dsimp only at hSw); go_simp; (try with_reducible rfl)
        · assumption
        try simp only [Act.put, sA, sB, sC]
        refine wpAnyH_take (i := 1) (oi := ?_) (v := ?_) ?_ ?_ ?_ ?_ ?_ ?_ ?_ ?_
        rotate_left 2
        · simp only [gA, gB, gC]; rfl
        · kernel_rfl
        · kernel_rfl
        · kernel_rfl
        · exact fun _ _ _ h => h
        · refine Or.inl ⟨by rfl, ?_⟩; intro w hSw; (try dsimp only at hSw); go_simp; (try with_reducible rfl)
        · assumption
        try simp only [Act.put, sA, sB, sC]
        refine wpAnyH_take (i := 2) (oi := ?_) (v := ?_) ?_ ?_ ?_ ?_ ?_ ?_ ?_ ?_
        rotate_left 2
        · simp only [gA, gB, gC]; rfl
        · kernel_rfl
        · kernel_rfl
        · kernel_rfl
        · exact fun _ _ _ h => h
        · refine Or.inl ⟨by rfl, ?_⟩; intro w hSw; (try dsimp only at hSw); go_simp; (try with_reducible rfl)
        · assumption
        try simp only [Act.put, sA, sB, sC]
        refine wpAnyH_take (i := 3) (oi := ?_) (v := ?_) ?_ ?_ ?_ ?_ ?_ ?_ ?_ ?_
        rotate_left 2
        · simp only [gA, gB, gC]; rfl
        · kernel_rfl
        · kernel_rfl
        · kernel_rfl
        · exact fun _ _ _ h => h
        · refine Or.inl ⟨by rfl, ?_⟩; intro w hSw; (try dsimp only at hSw); go_simp; (try with_reducible rfl)
        · assumption
        try simp only [Act.put, sA, sB, sC]
        refine wpAnyH_take (i := 4) (oi := ?_) (v := ?_) ?_ ?_ ?_ ?_ ?_ ?_ ?_ ?_
        rotate_left 2
        · simp only [gA, gB, gC]; rfl
        · kernel_rfl
        · kernel_rfl
        · kernel_rfl
        · exact fun _ _ _ h => h
        · refine Or.inl ⟨by rfl, ?_⟩; intro w hSw; (try dsimp only at hSw); go_simp; (try with_reducible rfl)
        · assumption
        try simp only [Act.put, sA, sB, sC]
        refine wpAnyH_take (i := 5) (oi := ?_) (v := ?_) ?_ ?_ ?_ ?_ ?_ ?_ ?_ ?_
        rotate_left 2
        · simp only [gA, gB, gC]; rfl
        · kernel_rfl
        · kernel_rfl
        · kernel_rfl
        · exact fun _ _ _ h => h
        · refine Or.inl ⟨by rfl, ?_⟩; intro w hSw; (try dsimp only at hSw); go_simp; (try with_reducible rfl)
        · assumption
        try simp only [Act.put, sA, sB, sC]
        refine wpAnyH_take (i := 6) (oi := ?_) (v := ?_) ?_ ?_ ?_ ?_ ?_ ?_ ?_ ?_
        rotate_left 2
        · simp only [gA, gB, gC]; rfl
        · kernel_rfl
        · kernel_rfl
        · kernel_rfl
        · exact fun _ _ _ h => h
        · refine Or.inl ⟨by rfl, ?_⟩; intro w hSw; (try dsimp only at hSw); go_simp; (try with_reducible rfl)
        · assumption
        try simp only [Act.put, sA, sB, sC]
        refine wpAnyH_take (i := 7) (oi := ?_) (v := ?_) ?_ ?_ ?_ ?_ ?_ ?_ ?_ ?_
        rotate_left 2
        · simp only [gA, gB, gC]; rfl
        · kernel_rfl
        · kernel_rfl
        · kernel_rfl
        · exact fun _ _ _ h => h
        · refine Or.inl ⟨by rfl, ?_⟩; intro w hSw; (try dsimp only at hSw); go_simp; (try with_reducible rfl)
        · assumption
        try simp only [Act.put, sA, sB, sC]
        refine wpAnyH_take (i := 8) (oi := ?_) (v := ?_) ?_ ?_ ?_ ?_ ?_ ?_ ?_ ?_
        rotate_left 2
        · simp only [gA, gB, gC]; rfl
        · kernel_rfl
        · kernel_rfl
        · kernel_rfl
        · exact fun _ _ _ h => h
        · refine Or.inl ⟨by rfl, ?_⟩; intro w hSw; (try dsimp only at hSw); go_simp; (try with_reducible rfl)
        · assumption
        try simp only [Act.put, sA, sB, sC]
        refine wpAnyH_take (i := 9) (oi := ?_) (v := ?_) ?_ ?_ ?_ ?_ ?_ ?_ ?_ ?_
        rotate_left 2
        · simp only [gA, gB, gC]; rfl
        · kernel_rfl
        · kernel_rfl
        · kernel_rfl
        · exact fun _ _ _ h => h
        · refine Or.inl ⟨by rfl, ?_⟩; intro w hSw; (try dsimp only at hSw); go_simp; (try with_reducible rfl)
        · assumption
        try simp only [Act.put, sA, sB, sC]
        refine wpAnyH_take (i := 10) (oi := ?_) (v := ?_) ?_ ?_ ?_ ?_ ?_ ?_ ?_ ?_
        rotate_left 2
        · simp only [gA, gB, gC]; rfl
        · kernel_rfl
        · kernel_rfl
        · kernel_rfl
        · exact fun _ _ _ h => h
        · refine Or.inl ⟨by rfl, ?_⟩; intro w hSw; (try dsimp only at hSw); go_simp; (try with_reducible rfl)
        · assumption
        try simp only [Act.put, sA, sB, sC]
        refine wpAnyH_take (i := 11) (oi := ?_) (v := ?_) ?_ ?_ ?_ ?_ ?_ ?_ ?_ ?_
        rotate_left 2
        · simp only [gA, gB, gC]; rfl
        · kernel_rfl
        · kernel_rfl
        · kernel_rfl
        · exact fun _ _ _ h => h
        · refine Or.inl ⟨by rfl, ?_⟩; intro w hSw; (try dsimp only at hSw); go_simp; (try with_reducible rfl)
        · assumption
        try simp only [Act.put, sA, sB, sC]
        refine wpAnyH_take (i := 12) (oi := ?_) (v := ?_) ?_ ?_ ?_ ?_ ?_ ?_ ?_ ?_
        rotate_left 2
        · simp only [gA, gB, gC]; rfl
        · kernel_rfl
        · kernel_rfl
        · kernel_rfl
        · exact fun _ _ _ h => h
        · refine Or.inl ⟨by rfl, ?_⟩; intro w hSw; (try dsimp only at hSw); go_simp; (try with_reducible rfl)
        · assumption
        try simp only [Act.put, sA, sB, sC]
        refine wpAnyH_take (i := 13) (oi := ?_) (v := ?_) ?_ ?_ ?_ ?_ ?_ ?_ ?_ ?_
        rotate_left 2
        · simp only [gA, gB, gC]; rfl
        · kernel_rfl
        · kernel_rfl
        · kernel_rfl
        · exact fun _ _ _ h => h
        · refine Or.inl ⟨by rfl, ?_⟩; intro w hSw; (try dsimp only at hSw); go_simp; (try with_reducible rfl)
        · assumption
        try simp only [Act.put, sA, sB, sC]
        refine wpAnyH_ready (rs := [14]) (by kernel_rfl) (by simp) ?_
        refine AllReadyH.cons (o := ?_) ?_ (fun K hK => ?_) AllReadyH.nil
        rotate_left
        · simp only [gA, gB, gC]; rfl
        go_simp
        (go_at_call 57; refine (s_l5Zeros nc (by omega)).mono ?_; rintro e w3 ⟨⟨v3, rfl, ho3⟩, hx3⟩; have hk2 := hk2.trans hx3; obtain ⟨a3, n3, c3, rfl, hn3⟩ := ho3.var; have hn4 : nc ≤ n3 := by (have h1 := hn3.out; rw [List.length_replicate] at h1; omega))
        go_wp2_with fail
        refine hK.out _ _ ?_ (fun hHeld => ?_)
        · exact HKEEP.out _ hk2
        clear hK K
        try simp only [Act.put, sA, sB, sC]
        refine wpAnyH_ready (rs := [15]) (by kernel_rfl) (by simp) ?_
        refine AllReadyH.cons (o := ?_) ?_ (fun K hK => ?_) AllReadyH.nil
        rotate_left
        · simp only [gA, gB, gC]; rfl
        go_simp
        (go_at_call 181; refine (HDU.out _ (TE.out.grow hk2) _ _ _ ho3.rats hn4).mono ?_; rintro e w4 ⟨rfl, hx4⟩; have hk2 := hk2.trans hx4)
        go_wp2_with fail
        refine hK.out _ _ ?_ (fun hHeld => ?_)
        · exact HKEEP.out _ hk2
        clear hK K
        try simp only [Act.put, sA, sB, sC]
        refine wpAnyH_take (i := 16) (oi := ?_) (v := ?_) ?_ ?_ ?_ ?_ ?_ ?_ ?_ ?_
        rotate_left 2
        · simp only [gA, gB, gC]; rfl
        · kernel_rfl
        · kernel_rfl
        · kernel_rfl
        · exact fun _ _ _ h => h
        · refine Or.inl ⟨by rfl, ?_⟩; intro w hSw; (try dsimp only at hSw); go_simp; (try with_reducible rfl)
        · assumption
        try simp only [Act.put, sA, sB, sC]
        refine wpAnyH_take (i := 17) (oi := ?_) (v := ?_) ?_ ?_ ?_ ?_ ?_ ?_ ?_ ?_
        rotate_left 2
        · simp only [gA, gB, gC]; rfl
        · kernel_rfl
        · kernel_rfl
        · kernel_rfl
        · exact fun _ _ _ h => h
        · refine Or.inl ⟨by rfl, ?_⟩; intro w hSw; (try dsimp only at hSw); go_simp; (try with_reducible rfl)
        · assumption
        try simp only [Act.put, sA, sB, sC]
        refine wpAnyH_take (i := 18) (oi := ?_) (v := ?_) ?_ ?_ ?_ ?_ ?_ ?_ ?_ ?_
        rotate_left 2
        · simp only [gA, gB, gC]; rfl
        · kernel_rfl
        · kernel_rfl
        · kernel_rfl
        · exact fun _ _ _ h => h
        · refine Or.inl ⟨by rfl, ?_⟩; intro w hSw; (try dsimp only at hSw); go_simp; (try with_reducible rfl)
        · assumption
        try simp only [Act.put, sA, sB, sC]
        refine wpAnyH_take (i := 19) (oi := ?_) (v := ?_) ?_ ?_ ?_ ?_ ?_ ?_ ?_ ?_
        rotate_left 2
        · simp only [gA, gB, gC]; rfl
        · kernel_rfl
        · kernel_rfl
        · kernel_rfl
        · exact fun _ _ _ h => h
        · refine Or.inl ⟨by rfl, ?_⟩; intro w hSw; (try dsimp only at hSw); go_simp; (try with_reducible rfl)
        · assumption
        try simp only [Act.put, sA, sB, sC]
        refine wpAnyH_take (i := 20) (oi := ?_) (v := ?_) ?_ ?_ ?_ ?_ ?_ ?_ ?_ ?_
        rotate_left 2
        · simp only [gA, gB, gC]; rfl
        · kernel_rfl
        · kernel_rfl
        · kernel_rfl
        · exact fun _ _ _ h => h
        · refine Or.inl ⟨by rfl, ?_⟩; intro w hSw; (try dsimp only at hSw); go_simp; (try with_reducible rfl)
        · assumption
        try simp only [Act.put, sA, sB, sC]
        refine wpAnyH_take (i := 21) (oi := ?_) (v := ?_) ?_ ?_ ?_ ?_ ?_ ?_ ?_ ?_
        rotate_left 2
        · simp only [gA, gB, gC]; rfl
        · kernel_rfl
        · kernel_rfl
        · kernel_rfl
        · exact fun _ _ _ h => h
        · refine Or.inl ⟨by rfl, ?_⟩; intro w hSw; (try dsimp only at hSw); go_simp; (try with_reducible rfl)
        · assumption
        try simp only [Act.put, sA, sB, sC]
        refine wpAnyH_take (i := 22) (oi := ?_) (v := ?_) ?_ ?_ ?_ ?_ ?_ ?_ ?_ ?_
        rotate_left 2
        · simp only [gA, gB, gC]; rfl
        · kernel_rfl
        · kernel_rfl
        · kernel_rfl
        · exact fun _ _ _ h => h
        · refine Or.inl ⟨by rfl, ?_⟩; intro w hSw; (try dsimp only at hSw); go_simp; (try with_reducible rfl)
        · assumption
        try simp only [Act.put, sA, sB, sC]
        refine wpAnyH_take (i := 23) (oi := ?_) (v := ?_) ?_ ?_ ?_ ?_ ?_ ?_ ?_ ?_
        rotate_left 2
        · simp only [gA, gB, gC]; rfl
        · kernel_rfl
        · kernel_rfl
        · kernel_rfl
        · exact fun _ _ _ h => h
        · refine Or.inl ⟨by rfl, ?_⟩; intro w hSw; (try dsimp only at hSw); go_simp; (try with_reducible rfl)
        · assumption
        try simp only [Act.put, sA, sB, sC]
        refine wpAnyH_take (i := 24) (oi := ?_) (v := ?_) ?_ ?_ ?_ ?_ ?_ ?_ ?_ ?_
        rotate_left 2
        · simp only [gA, gB, gC]; rfl
        · kernel_rfl
        · kernel_rfl
        · kernel_rfl
        · exact fun _ _ _ h => h
        · refine Or.inl ⟨by rfl, ?_⟩; intro w hSw; (try dsimp only at hSw); go_simp; (try with_reducible rfl)
        · assumption
        try simp only [Act.put, sA, sB, sC]
        refine wpAnyH_take (i := 25) (oi := ?_) (v := ?_) ?_ ?_ ?_ ?_ ?_ ?_ ?_ ?_
        rotate_left 2
        · simp only [gA, gB, gC]; rfl
        · kernel_rfl
        · kernel_rfl
        · kernel_rfl
        · exact fun _ _ _ h => h
        · refine Or.inl ⟨by rfl, ?_⟩; intro w hSw; (try dsimp only at hSw); go_simp; (try with_reducible rfl)
        · assumption
        try simp only [Act.put, sA, sB, sC]
        refine wpAnyH_done (by kernel_rfl) ?_ _
        go_wp2_with fail
        go_ret
        exact ⟨ret_bool HZ.out, (TE.out.grow hk2).all⟩
  · have hne : ((yn : Int) == (nb : Int)) = false := by simp; omega
    have HZ := Lib.hid (show false = V by rw [HVE.out, decide_eq_false hyn]; rfl)
    clear hyn
    refine wp_region_held_drew (S := (fun w' => w'.cell? ⟨w.heap.size, 0, none⟩ = some (.slice a nb ca) ∧ w'.cell? ⟨w.heap.size, 1, none⟩ = some (.slice b nb cb) ∧ w'.cell? ⟨w.heap.size, 2, none⟩ = some (.slice c nc cc) ∧ w'.cell? ⟨w.heap.size + 1, 2, none⟩ = some (.slice ya yn yc) ∧ w'.cell? ⟨gx, 0, none⟩ = some (.int .i64 y1) ∧ w'.cell? ⟨gx, 1, none⟩ = some (.int .i64 y2) ∧ Ext E w')) (by kernel_rfl) ?_ (fun hHeld => ?_)
    · exact HKEEP.out _ hk2
    refine wpAnyH_take (i := 0) (oi := ?_) (v := ?_) ?_ ?_ ?_ ?_ ?_ ?_ ?_ ?_
    rotate_left 2
    · simp only [gA, gB, gC]; rfl
    · kernel_rfl
    · kernel_rfl
    · kernel_rfl
    · exact fun _ _ _ h => h
    · refine Or.inl ⟨by rfl, ?_⟩; intro w hSw; (try dsimp only at hSw); go_simp; (try with_reducible rfl)
    · assumption
    try simp only [Act.put, sA, sB, sC]
    refine wpAnyH_take (i := 1) (oi := ?_) (v := ?_) ?_ ?_ ?_ ?_ ?_ ?_ ?_ ?_
    rotate_left 2
    · simp only [gA, gB, gC]; rfl
    · kernel_rfl
    · kernel_rfl
    · kernel_rfl
    · exact fun _ _ _ h => h
    · refine Or.inl ⟨by rfl, ?_⟩; intro w hSw; (try dsimp only at hSw); go_simp; (try with_reducible rfl)
    · assumption
    try simp only [Act.put, sA, sB, sC]
    refine wpAnyH_take (i := 2) (oi := ?_) (v := ?_) ?_ ?_ ?_ ?_ ?_ ?_ ?_ ?_
    rotate_left 2
    · simp only [gA, gB, gC]; rfl
    · kernel_rfl
    · kernel_rfl
    · kernel_rfl
    · exact fun _ _ _ h => h
    · refine Or.inl ⟨by rfl, ?_⟩; intro w hSw; (try dsimp only at hSw); go_simp; (try with_reducible rfl)
    · assumption
    try simp only [Act.put, sA, sB, sC]
    refine wpAnyH_take (i := 3) (oi := ?_) (v := ?_) ?_ ?_ ?_ ?_ ?_ ?_ ?_ ?_
    rotate_left 2
    · simp only [gA, gB, gC]; rfl
    · kernel_rfl
    · kernel_rfl
    · kernel_rfl
    · exact fun _ _ _ h => h
    · refine Or.inl ⟨by rfl, ?_⟩; intro w hSw; (try dsimp only at hSw); go_simp; (try with_reducible rfl)
    · assumption
    try simp only [Act.put, sA, sB, sC]
    refine wpAnyH_take (i := 4) (oi := ?_) (v := ?_) ?_ ?_ ?_ ?_ ?_ ?_ ?_ ?_
    rotate_left 2
    · simp only [gA, gB, gC]; rfl
    · kernel_rfl
    · kernel_rfl
    · kernel_rfl
    · exact fun _ _ _ h => h
    · refine Or.inl ⟨by rfl, ?_⟩; intro w hSw; (try dsimp only at hSw); go_simp; (try with_reducible rfl)
    · assumption
    try simp only [Act.put, sA, sB, sC]
    refine wpAnyH_take (i := 5) (oi := ?_) (v := ?_) ?_ ?_ ?_ ?_ ?_ ?_ ?_ ?_
    rotate_left 2
    · simp only [gA, gB, gC]; rfl
    · kernel_rfl
    · kernel_rfl
    · kernel_rfl
    · exact fun _ _ _ h => h
    · refine Or.inl ⟨by rfl, ?_⟩; intro w hSw; (try dsimp only at hSw); go_simp; (try with_reducible rfl)
    · assumption
    try simp only [Act.put, sA, sB, sC]
    refine wpAnyH_take (i := 6) (oi := ?_) (v := ?_) ?_ ?_ ?_ ?_ ?_ ?_ ?_ ?_
    rotate_left 2
    · simp only [gA, gB, gC]; rfl
    · kernel_rfl
    · kernel_rfl
    · kernel_rfl
    · exact fun _ _ _ h => h
    · refine Or.inl ⟨by rfl, ?_⟩; intro w hSw; (try dsimp only at hSw); go_simp; (try with_reducible rfl)
    · assumption
    try simp only [Act.put, sA, sB, sC]
    refine wpAnyH_take (i := 7) (oi := ?_) (v := ?_) ?_ ?_ ?_ ?_ ?_ ?_ ?_ ?_
    rotate_left 2
    · simp only [gA, gB, gC]; rfl
    · kernel_rfl
    · kernel_rfl
    · kernel_rfl
    · exact fun _ _ _ h => h
    · refine Or.inl ⟨by rfl, ?_⟩; intro w hSw; (try dsimp only at hSw); go_simp; (try with_reducible rfl)
    · assumption
    try simp only [Act.put, sA, sB, sC]
    refine wpAnyH_take (i := 8) (oi := ?_) (v := undef) ?_ ?_ ?_ ?_ ?_ ?_ ?_ ?_
    rotate_left
    · simp only [gA, gB, gC]; rfl
    · kernel_rfl
    · kernel_rfl
    · kernel_rfl
    · exact fun _ _ _ h => h
    · exact Or.inr ⟨by rfl, rfl⟩
    · assumption
    try simp only [Act.put, sA, sB, sC]
    refine wpAnyH_take (i := 9) (oi := ?_) (v := undef) ?_ ?_ ?_ ?_ ?_ ?_ ?_ ?_
    rotate_left
    · simp only [gA, gB, gC]; rfl
    · kernel_rfl
    · kernel_rfl
    · kernel_rfl
    · exact fun _ _ _ h => h
    · exact Or.inr ⟨by rfl, rfl⟩
    · assumption
    try simp only [Act.put, sA, sB, sC]
    refine wpAnyH_take (i := 10) (oi := ?_) (v := undef) ?_ ?_ ?_ ?_ ?_ ?_ ?_ ?_
    rotate_left
    · simp only [gA, gB, gC]; rfl
    · kernel_rfl
    · kernel_rfl
    · kernel_rfl
    · exact fun _ _ _ h => h
    · exact Or.inr ⟨by rfl, rfl⟩
    · assumption
    try simp only [Act.put, sA, sB, sC]
    refine wpAnyH_take (i := 11) (oi := ?_) (v := undef) ?_ ?_ ?_ ?_ ?_ ?_ ?_ ?_
    rotate_left
    · simp only [gA, gB, gC]; rfl
    · kernel_rfl
    · kernel_rfl
    · kernel_rfl
    · exact fun _ _ _ h => h
    · exact Or.inr ⟨by rfl, rfl⟩
    · assumption
    try simp only [Act.put, sA, sB, sC]
    refine wpAnyH_take (i := 12) (oi := ?_) (v := undef) ?_ ?_ ?_ ?_ ?_ ?_ ?_ ?_
    rotate_left
    · simp only [gA, gB, gC]; rfl
    · kernel_rfl
    · kernel_rfl
    · kernel_rfl
    · exact fun _ _ _ h => h
    · exact Or.inr ⟨by rfl, rfl⟩
    · assumption
    try simp only [Act.put, sA, sB, sC]
    refine wpAnyH_take (i := 13) (oi := ?_) (v := undef) ?_ ?_ ?_ ?_ ?_ ?_ ?_ ?_
    rotate_left
    · simp only [gA, gB, gC]; rfl
    · kernel_rfl
    · kernel_rfl
    · kernel_rfl
    · exact fun _ _ _ h => h
    · exact Or.inr ⟨by rfl, rfl⟩
    · assumption
    try simp only [Act.put, sA, sB, sC]
    refine wpAnyH_take (i := 14) (oi := ?_) (v := undef) ?_ ?_ ?_ ?_ ?_ ?_ ?_ ?_
    rotate_left
    · simp only [gA, gB, gC]; rfl
    · kernel_rfl
    · kernel_rfl
    · kernel_rfl
    · exact fun _ _ _ h => h
    · exact Or.inr ⟨by rfl, rfl⟩
    · assumption
    try simp only [Act.put, sA, sB, sC]
    refine wpAnyH_take (i := 15) (oi := ?_) (v := undef) ?_ ?_ ?_ ?_ ?_ ?_ ?_ ?_
    rotate_left
    · simp only [gA, gB, gC]; rfl
    · kernel_rfl
    · kernel_rfl
    · kernel_rfl
    · exact fun _ _ _ h => h
    · exact Or.inr ⟨by rfl, rfl⟩
    · assumption
    try simp only [Act.put, sA, sB, sC]
    refine wpAnyH_take (i := 16) (oi := ?_) (v := ?_) ?_ ?_ ?_ ?_ ?_ ?_ ?_ ?_
    rotate_left 2
    · simp only [gA, gB, gC]; rfl
    · kernel_rfl
    · kernel_rfl
    · kernel_rfl
    · exact fun _ _ _ h => h
    · refine Or.inl ⟨by rfl, ?_⟩; intro w hSw; (try dsimp only at hSw); go_simp; (try with_reducible rfl)
    · assumption
    try simp only [Act.put, sA, sB, sC]
    refine wpAnyH_take (i := 17) (oi := ?_) (v := ?_) ?_ ?_ ?_ ?_ ?_ ?_ ?_ ?_
    rotate_left 2
    · simp only [gA, gB, gC]; rfl
    · kernel_rfl
    · kernel_rfl
    · kernel_rfl
    · exact fun _ _ _ h => h
    · refine Or.inl ⟨by rfl, ?_⟩; intro w hSw; (try dsimp only at hSw); go_simp; (try with_reducible rfl)
    · assumption
    try simp only [Act.put, sA, sB, sC]
    refine wpAnyH_take (i := 18) (oi := ?_) (v := undef) ?_ ?_ ?_ ?_ ?_ ?_ ?_ ?_
    rotate_left
    · simp only [gA, gB, gC]; rfl
    · kernel_rfl
    · kernel_rfl
    · kernel_rfl
    · exact fun _ _ _ h => h
    · exact Or.inr ⟨by rfl, rfl⟩
    · assumption
    try simp only [Act.put, sA, sB, sC]
    refine wpAnyH_take (i := 19) (oi := ?_) (v := ?_) ?_ ?_ ?_ ?_ ?_ ?_ ?_ ?_
    rotate_left 2
    · simp only [gA, gB, gC]; rfl
    · kernel_rfl
    · kernel_rfl
    · kernel_rfl
    · exact fun _ _ _ h => h
    · refine Or.inl ⟨by rfl, ?_⟩; intro w hSw; (try dsimp only at hSw); go_simp; (try with_reducible rfl)
    · assumption
    try simp only [Act.put, sA, sB, sC]
    refine wpAnyH_take (i := 20) (oi := ?_) (v := ?_) ?_ ?_ ?_ ?_ ?_ ?_ ?_ ?_
    rotate_left 2
    · simp only [gA, gB, gC]; rfl
    · kernel_rfl
    · kernel_rfl
    · kernel_rfl
    · exact fun _ _ _ h => h
    · refine Or.inl ⟨by rfl, ?_⟩; intro w hSw; (try dsimp only at hSw); go_simp; (try with_reducible rfl)
    · assumption
    try simp only [Act.put, sA, sB, sC]
    refine wpAnyH_take (i := 21) (oi := ?_) (v := undef) ?_ ?_ ?_ ?_ ?_ ?_ ?_ ?_
    rotate_left
    · simp only [gA, gB, gC]; rfl
    · kernel_rfl
    · kernel_rfl
    · kernel_rfl
    · exact fun _ _ _ h => h
    · exact Or.inr ⟨by rfl, rfl⟩
    · assumption
    try simp only [Act.put, sA, sB, sC]
    refine wpAnyH_take (i := 22) (oi := ?_) (v := undef) ?_ ?_ ?_ ?_ ?_ ?_ ?_ ?_
    rotate_left
    · simp only [gA, gB, gC]; rfl
    · kernel_rfl
    · kernel_rfl
    · kernel_rfl
    · exact fun _ _ _ h => h
    · exact Or.inr ⟨by rfl, rfl⟩
    · assumption
    try simp only [Act.put, sA, sB, sC]
    refine wpAnyH_take (i := 23) (oi := ?_) (v := undef) ?_ ?_ ?_ ?_ ?_ ?_ ?_ ?_
    rotate_left
    · simp only [gA, gB, gC]; rfl
    · kernel_rfl
    · kernel_rfl
    · kernel_rfl
    · exact fun _ _ _ h => h
    · exact Or.inr ⟨by rfl, rfl⟩
    · assumption
    try simp only [Act.put, sA, sB, sC]
    refine wpAnyH_take (i := 24) (oi := ?_) (v := ?_) ?_ ?_ ?_ ?_ ?_ ?_ ?_ ?_
    rotate_left 2
    · simp only [gA, gB, gC]; rfl
    · kernel_rfl
    · kernel_rfl
    · kernel_rfl
    · exact fun _ _ _ h => h
    · refine Or.inl ⟨by rfl, ?_⟩; intro w hSw; (try dsimp only at hSw); go_simp; (try with_reducible rfl)
    · assumption
    try simp only [Act.put, sA, sB, sC]
    refine wpAnyH_take (i := 25) (oi := ?_) (v := ?_) ?_ ?_ ?_ ?_ ?_ ?_ ?_ ?_
    rotate_left 2
    · simp only [gA, gB, gC]; rfl
    · kernel_rfl
    · kernel_rfl
    · kernel_rfl
    · exact fun _ _ _ h => h
    · refine Or.inl ⟨by rfl, ?_⟩; intro w hSw; (try dsimp only at hSw); go_simp; (try with_reducible rfl)
    · assumption
    try simp only [Act.put, sA, sB, sC]
    refine wpAnyH_done (by kernel_rfl) ?_ _
    go_wp2_with fail
    go_ret
    exact ⟨ret_bool HZ.out, (TE.out.grow hk2).all⟩
set_option maxHeartbeats 16000000 in
theorem s_CheckLP3 (h : LpC w a na ca b nb cb c nc cc A B C) (h' : LrC w xa xn xc ya yn yc ra rn rc r) (ok : okLP A B C = true) (hs : r.status = 3) :
    Calls Tryz.prog 131 #[lpW a na ca b nb cb c nc cc, lrW r xa xn xc ya yn yc ra rn rc] w fun e w' => e = .returned (.bool (checkG boundS A B C r)) ∧ Ext w w' := by
  obtain ⟨r1, r2, r3, r4, r5, r6⟩ := okLP_rows h ok
  subst r3
  have T0 := Lib.hid (show Two w ((w.alloc (lpBox a nb ca b nb cb c nc cc)).alloc (lrBox r xa xn xc ya yn yc ra rn rc)) a nb ca b nb cb c nc cc xa xn xc ya yn yc ra rn rc r A B C from ⟨Ext.refl _, (h.ext (Ext.alloc _ _)).ext (Ext.alloc _ _), (h'.ext (Ext.alloc _ _)).ext (Ext.alloc _ _)⟩)
  have hy1 := h'.y.hcap
  have hy2 := h'.y.hmax
  have hr1 := h'.ray.hcap
  have hr2 := h'.ray.hmax
  have hc1 := h.c.hcap
  have hc2 := h.c.hmax
  have hb1 := h.b.hcap
  have hb2 := h.b.hmax
  have HOK := Lib.hid ok
  have HFB6 := Lib.hid (fitL_small r6)
  have HR5 := Lib.hid r5
  obtain ⟨st, rX, rY, rr, rv, rp⟩ := r
  obtain ⟨v1, v2⟩ := rv
  simp only at hs
  subst hs
  have HLY := Lib.hid h'.y.hlen
  have HLB := Lib.hid h.b.hlen
  have HLC := Lib.hid h.c.hlen
  have HLR := Lib.hid h'.ray.hlen
  have HV := Lib.hid (s_IsValidLP T0.out.lp)
  rw [ok] at HV
  obtain ⟨V, hV⟩ : ∃ v, v = checkG boundS A B C ⟨3, rX, rY, rr, (v1, v2), rp⟩ := ⟨_, rfl⟩
  rw [← hV]
  obtain ⟨fv, hfv⟩ : ∃ f, f = feasB A B C.length rX := ⟨_, rfl⟩
  obtain ⟨pv, hpv⟩ : ∃ f, f = posV rr := ⟨_, rfl⟩
  obtain ⟨gv, hgv⟩ : ∃ f, f = givesB A rr (List.replicate nb 0) := ⟨_, rfl⟩
  obtain ⟨dx, hdx⟩ : ∃ d, d = dotL C rr := ⟨_, rfl⟩
  have HVE := Lib.hid (show V = (fv && ((decide (rn = nc) && pv) && (gv && negO dx))) by
    rw [hV, hfv, hpv, hgv, hdx]; unfold checkG; rw [if_neg (by simp), if_neg (by simp), if_pos rfl]; simp only; rw [rayB_eq, HLB.out, HLC.out, show rr.length = rn from HLR.out])
  have HF := Lib.hid (fun (W : World) (t : Two w W a nb ca b nb cb c nc cc xa xn xc ya yn yc ra rn rc ⟨3, rX, rY, rr, (v1, v2), rp⟩ A B C) => s_IsFeasible t.lp HOK.out t.lr.x)
  have HN := Lib.hid (fun (W : World) (t : Two w W a nb ca b nb cb c nc cc xa xn xc ya yn yc ra rn rc ⟨3, rX, rY, rr, (v1, v2), rp⟩ A B C) => s_l5NotNegative t.lr.ray)
  have hmk := mk_ints nb (by omega)
  have HGV := Lib.hid (fun (W : World) (t : Two w W a nb ca b nb cb c nc cc xa xn xc ya yn yc ra rn rc ⟨3, rX, rY, rr, (v1, v2), rp⟩ A B C) => s_l5Gives (b := b) (nb := nb) (cb := cb) (c := c) (nc := nc) (cc := cc) (t.grow (Ext.alloc W (.cells (intCells (List.replicate nb 0)) 3))).lp.a (t.grow (Ext.alloc W (.cells (intCells (List.replicate nb 0)) 3))).lr.ray (Row.ints (show Row (W.alloc (.cells (intCells (List.replicate nb 0)) 3)) W.heap.size 3 (List.replicate nb 0) from heap_alloc_new _ _) (by simp) (Nat.le_refl nb) (by omega)) (Nat.le_refl _) HR5.out)
  have HDX := Lib.hid (fun (W : World) (t : Two w W a nb ca b nb cb c nc cc xa xn xc ya yn yc ra rn rc ⟨3, rX, rY, rr, (v1, v2), rp⟩ A B C) => s_DotRat t.lp.c t.lr.ray)
  simp only [← hfv] at HF
  simp only [← hpv] at HN
  simp only [← hgv] at HGV
  simp only [← hdx] at HDX
  obtain ⟨x1, x2, xok, hxx⟩ : ∃ y1 y2 yok, optR dx = ((y1, y2), yok) := ⟨_, _, _, rfl⟩
  simp only [hxx] at HDX
  have HXX := Lib.hid (show negO dx = (xok && decide (x1 < 0)) by
    cases dx with
    | none => simp only [optR] at hxx; cases hxx; rfl
    | some v => obtain ⟨z1, z2⟩ := v; simp only [optR, Option.getD_some, Option.isSome_some, Prod.mk.injEq] at hxx; obtain ⟨⟨rfl, rfl⟩, rfl⟩ := hxx; rfl)
  clear h h' ok r4 r5 r6
  clear hV hfv hpv hgv hdx hxx
  have HS1 : ((3 : Int) == 1) = false := by decide
  have HS2 : ((3 : Int) == 2) = false := by decide
  go_enter Tryz.func131, Tryz.ntmps131
  obtain ⟨p0, p1, p2⟩ := T0.out.p
  obtain ⟨q0, q1, q2, q3, q4, q5⟩ := T0.out.q
  go_wp2_with fail
  refine HV.out.mono ?_
  rintro e w1 ⟨rfl, hx⟩
  have T1 := Lib.hid (T0.out.grow hx)
  clear hx p0 p1 p2 q0 q1 q2 q3 q4 q5
  obtain ⟨p0, p1, p2⟩ := T1.out.p
  obtain ⟨q0, q1, q2, q3, q4, q5⟩ := T1.out.q
  go_wp2_with fail
  refine (HDX.out _ T1.out).mono ?_
  rintro e w2 ⟨rfl, hx⟩
  obtain ⟨E, hE⟩ : ∃ E, E = w2.alloc (.cells #[.int .i64 x1, .int .i64 x2] 85) := ⟨_, rfl⟩
  obtain ⟨gx, hgx⟩ : ∃ g, g = w2.heap.size := ⟨_, rfl⟩
  have hxE : Ext w2 E := by rw [hE]; exact Ext.alloc _ _
  have TE := Lib.hid ((T1.out.grow hx).grow hxE)
  have HB0 := Lib.hid (show Boxed w2 E gx x1 x2 by rw [hE, hgx]; exact Boxed.new (Ext.refl _) _ _)
  go_upto_region 11 with fail
  rw [← hE, ← hgx]
  clear hE hxE hx hgx p0 p1 p2 q0 q1 q2 q3 q4 q5
  obtain ⟨p0, p1, p2⟩ := TE.out.p
  obtain ⟨q0, q1, q2, q3, q4, q5⟩ := TE.out.q
  have b0 := HB0.out.c0
  have b1 := HB0.out.c1
  have hk2 : Ext E E.drew := Ext.drew E
  have HKEEP := Lib.hid (fun (w' : World) (h : Ext E w') => (⟨h.cellSome p0, h.cellSome p1, h.cellSome p2, h.cellSome q1, h.cellSome q3, h.cellSome b0, h.cellSome b1, h⟩ : w'.cell? ⟨w.heap.size, 0, none⟩ = some (.slice a nb ca) ∧ w'.cell? ⟨w.heap.size, 1, none⟩ = some (.slice b nb cb) ∧ w'.cell? ⟨w.heap.size, 2, none⟩ = some (.slice c nc cc) ∧ w'.cell? ⟨w.heap.size + 1, 1, none⟩ = some (.slice xa xn xc) ∧ w'.cell? ⟨w.heap.size + 1, 3, none⟩ = some (.slice ra rn rc) ∧ w'.cell? ⟨gx, 0, none⟩ = some (.int .i64 x1) ∧ w'.cell? ⟨gx, 1, none⟩ = some (.int .i64 x2) ∧ Ext E w'))
  cases fv
  · have HZ := Lib.hid (show false = V by rw [HVE.out]; rfl)
    refine wp_region_held_drew (S := (fun w' => w'.cell? ⟨w.heap.size, 0, none⟩ = some (.slice a nb ca) ∧ w'.cell? ⟨w.heap.size, 1, none⟩ = some (.slice b nb cb) ∧ w'.cell? ⟨w.heap.size, 2, none⟩ = some (.slice c nc cc) ∧ w'.cell? ⟨w.heap.size + 1, 1, none⟩ = some (.slice xa xn xc) ∧ w'.cell? ⟨w.heap.size + 1, 3, none⟩ = some (.slice ra rn rc) ∧ w'.cell? ⟨gx, 0, none⟩ = some (.int .i64 x1) ∧ w'.cell? ⟨gx, 1, none⟩ = some (.int .i64 x2) ∧ Ext E w')) (by kernel_rfl) ?_ (fun hHeld => ?_)
    · exact HKEEP.out _ hk2
    refine wpAnyH_take (i := 0) (oi := ?_) (v := ?_) ?_ ?_ ?_ ?_ ?_ ?_ ?_ ?_
    rotate_left 2
    · simp only [gA, gB, gC]; rfl
    · kernel_rfl
    · kernel_rfl
    · kernel_rfl
    · exact fun _ _ _ h => h
    · refine Or.inl ⟨by rfl, ?_⟩; intro w hSw; (try dsimp only at hSw); go_simp; (try with_reducible rfl)
    · assumption
    try simp only [Act.put, sA, sB, sC]
    refine wpAnyH_take (i := 1) (oi := ?_) (v := ?_) ?_ ?_ ?_ ?_ ?_ ?_ ?_ ?_
    rotate_left 2
    · simp only [gA, gB, gC]; rfl
    · kernel_rfl
    · kernel_rfl
    · kernel_rfl
    · exact fun _ _ _ h => h
    · refine Or.inl ⟨by rfl, ?_⟩; intro w hSw; (try dsimp only at hSw); go_simp; (try with_reducible rfl)
    · assumption
    try simp only [Act.put, sA, sB, sC]
    refine wpAnyH_take (i := 2) (oi := ?_) (v := ?_) ?_ ?_ ?_ ?_ ?_ ?_ ?_ ?_
    rotate_left 2
    · simp only [gA, gB, gC]; rfl
    · kernel_rfl
    · kernel_rfl
    · kernel_rfl
    · exact fun _ _ _ h => h
    · refine Or.inl ⟨by rfl, ?_⟩; intro w hSw; (try dsimp only at hSw); go_simp; (try with_reducible rfl)
    · assumption
    try simp only [Act.put, sA, sB, sC]
    refine wpAnyH_ready (rs := [3]) (by kernel_rfl) (by simp) ?_
    refine AllReadyH.cons (o := ?_) ?_ (fun K hK => ?_) AllReadyH.nil
    rotate_left
    · simp only [gA, gB, gC]; rfl
    go_simp
    (go_at_call 183; refine (HF.out _ (TE.out.grow hk2)).mono ?_; rintro e w3 ⟨rfl, hx3⟩; have hk2 := hk2.trans hx3)
    go_wp2_with fail
    refine hK.out _ _ ?_ (fun hHeld => ?_)
    · exact HKEEP.out _ hk2
    clear hK K
    try simp only [Act.put, sA, sB, sC]
    refine wpAnyH_take (i := 4) (oi := ?_) (v := ?_) ?_ ?_ ?_ ?_ ?_ ?_ ?_ ?_
    rotate_left 2
    · simp only [gA, gB, gC]; rfl
    · kernel_rfl
    · kernel_rfl
    · kernel_rfl
    · exact fun _ _ _ h => h
    · refine Or.inl ⟨by rfl, ?_⟩; intro w hSw; (try dsimp only at hSw); go_simp; (try with_reducible rfl)
    · assumption
    try simp only [Act.put, sA, sB, sC]
    refine wpAnyH_take (i := 5) (oi := ?_) (v := undef) ?_ ?_ ?_ ?_ ?_ ?_ ?_ ?_
    rotate_left
    · simp only [gA, gB, gC]; rfl
    · kernel_rfl
    · kernel_rfl
    · kernel_rfl
    · exact fun _ _ _ h => h
    · exact Or.inr ⟨by rfl, rfl⟩
    · assumption
    try simp only [Act.put, sA, sB, sC]
    refine wpAnyH_take (i := 6) (oi := ?_) (v := undef) ?_ ?_ ?_ ?_ ?_ ?_ ?_ ?_
    rotate_left
    · simp only [gA, gB, gC]; rfl
    · kernel_rfl
    · kernel_rfl
    · kernel_rfl
    · exact fun _ _ _ h => h
    · exact Or.inr ⟨by rfl, rfl⟩
    · assumption
    try simp only [Act.put, sA, sB, sC]
    refine wpAnyH_take (i := 7) (oi := ?_) (v := undef) ?_ ?_ ?_ ?_ ?_ ?_ ?_ ?_
    rotate_left
    · simp only [gA, gB, gC]; rfl
    · kernel_rfl
    · kernel_rfl
    · kernel_rfl
    · exact fun _ _ _ h => h
    · exact Or.inr ⟨by rfl, rfl⟩
    · assumption
    try simp only [Act.put, sA, sB, sC]
    refine wpAnyH_take (i := 8) (oi := ?_) (v := undef) ?_ ?_ ?_ ?_ ?_ ?_ ?_ ?_
    rotate_left
    · simp only [gA, gB, gC]; rfl
    · kernel_rfl
    · kernel_rfl
    · kernel_rfl
    · exact fun _ _ _ h => h
    · exact Or.inr ⟨by rfl, rfl⟩
    · assumption
    try simp only [Act.put, sA, sB, sC]
    refine wpAnyH_take (i := 9) (oi := ?_) (v := undef) ?_ ?_ ?_ ?_ ?_ ?_ ?_ ?_
    rotate_left
    · simp only [gA, gB, gC]; rfl
    · kernel_rfl
    · kernel_rfl
    · kernel_rfl
    · exact fun _ _ _ h => h
    · exact Or.inr ⟨by rfl, rfl⟩
    · assumption
    try simp only [Act.put, sA, sB, sC]
    refine wpAnyH_take (i := 10) (oi := ?_) (v := undef) ?_ ?_ ?_ ?_ ?_ ?_ ?_ ?_
    rotate_left
    · simp only [gA, gB, gC]; rfl
    · kernel_rfl
    · kernel_rfl
    · kernel_rfl
    · exact fun _ _ _ h => h
    · exact Or.inr ⟨by rfl, rfl⟩
    · assumption
    try simp only [Act.put, sA, sB, sC]
    refine wpAnyH_take (i := 11) (oi := ?_) (v := undef) ?_ ?_ ?_ ?_ ?_ ?_ ?_ ?_
    rotate_left
    · simp only [gA, gB, gC]; rfl
    · kernel_rfl
    · kernel_rfl
    · kernel_rfl
    · exact fun _ _ _ h => h
    · exact Or.inr ⟨by rfl, rfl⟩
    · assumption
    try simp only [Act.put, sA, sB, sC]
    refine wpAnyH_take (i := 12) (oi := ?_) (v := ?_) ?_ ?_ ?_ ?_ ?_ ?_ ?_ ?_
    rotate_left 2
    · simp only [gA, gB, gC]; rfl
    · kernel_rfl
    · kernel_rfl
    · kernel_rfl
    · exact fun _ _ _ h => h
    · refine Or.inl ⟨by rfl, ?_⟩; intro w hSw; (try dsimp only at hSw); go_simp; (try with_reducible rfl)
    · assumption
    try simp only [Act.put, sA, sB, sC]
    refine wpAnyH_take (i := 13) (oi := ?_) (v := ?_) ?_ ?_ ?_ ?_ ?_ ?_ ?_ ?_
    rotate_left 2
    · simp only [gA, gB, gC]; rfl
    · kernel_rfl
    · kernel_rfl
    · kernel_rfl
    · exact fun _ _ _ h => h
    · refine Or.inl ⟨by rfl, ?_⟩; intro w hSw; (try dsimp only at hSw); go_simp; (try with_reducible rfl)
    · assumption
    try simp only [Act.put, sA, sB, sC]
    refine wpAnyH_take (i := 14) (oi := ?_) (v := undef) ?_ ?_ ?_ ?_ ?_ ?_ ?_ ?_
    rotate_left
    · simp only [gA, gB, gC]; rfl
    · kernel_rfl
    · kernel_rfl
    · kernel_rfl
    · exact fun _ _ _ h => h
    · exact Or.inr ⟨by rfl, rfl⟩
    · assumption
    try simp only [Act.put, sA, sB, sC]
    refine wpAnyH_take (i := 15) (oi := ?_) (v := undef) ?_ ?_ ?_ ?_ ?_ ?_ ?_ ?_
    rotate_left
    · simp only [gA, gB, gC]; rfl
    · kernel_rfl
    · kernel_rfl
    · kernel_rfl
    · exact fun _ _ _ h => h
    · exact Or.inr ⟨by rfl, rfl⟩
    · assumption
    try simp only [Act.put, sA, sB, sC]
    refine wpAnyH_take (i := 16) (oi := ?_) (v := undef) ?_ ?_ ?_ ?_ ?_ ?_ ?_ ?_
    rotate_left
    · simp only [gA, gB, gC]; rfl
    · kernel_rfl
    · kernel_rfl
    · kernel_rfl
    · exact fun _ _ _ h => h
    · exact Or.inr ⟨by rfl, rfl⟩
    · assumption
    try simp only [Act.put, sA, sB, sC]
    refine wpAnyH_take (i := 17) (oi := ?_) (v := ?_) ?_ ?_ ?_ ?_ ?_ ?_ ?_ ?_
    rotate_left 2
    · simp only [gA, gB, gC]; rfl
    · kernel_rfl
    · kernel_rfl
    · kernel_rfl
    · exact fun _ _ _ h => h
    · refine Or.inl ⟨by rfl, ?_⟩; intro w hSw; (try dsimp only at hSw); go_simp; (try with_reducible rfl)
    · assumption
    try simp only [Act.put, sA, sB, sC]
    refine wpAnyH_take (i := 18) (oi := ?_) (v := ?_) ?_ ?_ ?_ ?_ ?_ ?_ ?_ ?_
    rotate_left 2
    · simp only [gA, gB, gC]; rfl
    · kernel_rfl
    · kernel_rfl
    · kernel_rfl
    · exact fun _ _ _ h => h
    · refine Or.inl ⟨by rfl, ?_⟩; intro w hSw; (try dsimp only at hSw); go_simp; (try with_reducible rfl)
    · assumption
    try simp only [Act.put, sA, sB, sC]
    refine wpAnyH_take (i := 19) (oi := ?_) (v := undef) ?_ ?_ ?_ ?_ ?_ ?_ ?_ ?_
    rotate_left
    · simp only [gA, gB, gC]; rfl
    · kernel_rfl
    · kernel_rfl
    · kernel_rfl
    · exact fun _ _ _ h => h
    · exact Or.inr ⟨by rfl, rfl⟩
    · assumption
    try simp only [Act.put, sA, sB, sC]
    refine wpAnyH_take (i := 20) (oi := ?_) (v := undef) ?_ ?_ ?_ ?_ ?_ ?_ ?_ ?_
    rotate_left
    · simp only [gA, gB, gC]; rfl
    · kernel_rfl
    · kernel_rfl
    · kernel_rfl
    · exact fun _ _ _ h => h
    · exact Or.inr ⟨by rfl, rfl⟩
    · assumption
    try simp only [Act.put, sA, sB, sC]
    refine wpAnyH_take (i := 21) (oi := ?_) (v := undef) ?_ ?_ ?_ ?_ ?_ ?_ ?_ ?_
    rotate_left
    · simp only [gA, gB, gC]; rfl
    · kernel_rfl
    · kernel_rfl
    · kernel_rfl
    · exact fun _ _ _ h => h
    · exact Or.inr ⟨by rfl, rfl⟩
    · assumption
    try simp only [Act.put, sA, sB, sC]
    refine wpAnyH_take (i := 22) (oi := ?_) (v := undef) ?_ ?_ ?_ ?_ ?_ ?_ ?_ ?_
    rotate_left
    · simp only [gA, gB, gC]; rfl
    · kernel_rfl
    · kernel_rfl
    · kernel_rfl
    · exact fun _ _ _ h => h
    · exact Or.inr ⟨by rfl, rfl⟩
    · assumption
    try simp only [Act.put, sA, sB, sC]
    refine wpAnyH_take (i := 23) (oi := ?_) (v := undef) ?_ ?_ ?_ ?_ ?_ ?_ ?_ ?_
    rotate_left
    · simp only [gA, gB, gC]; rfl
    · kernel_rfl
    · kernel_rfl
    · kernel_rfl
    · exact fun _ _ _ h => h
    · exact Or.inr ⟨by rfl, rfl⟩
    · assumption
    try simp only [Act.put, sA, sB, sC]
    refine wpAnyH_take (i := 24) (oi := ?_) (v := undef) ?_ ?_ ?_ ?_ ?_ ?_ ?_ ?_
    rotate_left
    · simp only [gA, gB, gC]; rfl
    · kernel_rfl
    · kernel_rfl
    · kernel_rfl
    · exact fun _ _ _ h => h
    · exact Or.inr ⟨by rfl, rfl⟩
    · assumption
    try simp only [Act.put, sA, sB, sC]
    refine wpAnyH_take (i := 25) (oi := ?_) (v := undef) ?_ ?_ ?_ ?_ ?_ ?_ ?_ ?_
    rotate_left
    · simp only [gA, gB, gC]; rfl
    · kernel_rfl
    · kernel_rfl
    · kernel_rfl
    · exact fun _ _ _ h => h
    · exact Or.inr ⟨by rfl, rfl⟩
    · assumption
    try simp only [Act.put, sA, sB, sC]
    refine wpAnyH_take (i := 26) (oi := ?_) (v := undef) ?_ ?_ ?_ ?_ ?_ ?_ ?_ ?_
    rotate_left
    · simp only [gA, gB, gC]; rfl
    · kernel_rfl
    · kernel_rfl
    · kernel_rfl
    · exact fun _ _ _ h => h
    · exact Or.inr ⟨by rfl, rfl⟩
    · assumption
    try simp only [Act.put, sA, sB, sC]
    refine wpAnyH_take (i := 27) (oi := ?_) (v := ?_) ?_ ?_ ?_ ?_ ?_ ?_ ?_ ?_
    rotate_left 2
    · simp only [gA, gB, gC]; rfl
    · kernel_rfl
    · kernel_rfl
    · kernel_rfl
    · exact fun _ _ _ h => h
    · refine Or.inl ⟨by rfl, ?_⟩; intro w hSw; (try dsimp only at hSw); go_simp; (try with_reducible rfl)
    · assumption
    try simp only [Act.put, sA, sB, sC]
    refine wpAnyH_take (i := 28) (oi := ?_) (v := ?_) ?_ ?_ ?_ ?_ ?_ ?_ ?_ ?_
    rotate_left 2
    · simp only [gA, gB, gC]; rfl
    · kernel_rfl
    · kernel_rfl
    · kernel_rfl
    · exact fun _ _ _ h => h
    · refine Or.inl ⟨by rfl, ?_⟩; intro w hSw; (try dsimp only at hSw); go_simp; (try with_reducible rfl)
    · assumption
    try simp only [Act.put, sA, sB, sC]
    refine wpAnyH_take (i := 29) (oi := ?_) (v := undef) ?_ ?_ ?_ ?_ ?_ ?_ ?_ ?_
    rotate_left
    · simp only [gA, gB, gC]; rfl
    · kernel_rfl
    · kernel_rfl
    · kernel_rfl
    · exact fun _ _ _ h => h
    · exact Or.inr ⟨by rfl, rfl⟩
    · assumption
    try simp only [Act.put, sA, sB, sC]
    refine wpAnyH_take (i := 30) (oi := ?_) (v := ?_) ?_ ?_ ?_ ?_ ?_ ?_ ?_ ?_
    rotate_left 2
    · simp only [gA, gB, gC]; rfl
    · kernel_rfl
    · kernel_rfl
    · kernel_rfl
    · exact fun _ _ _ h => h
    · refine Or.inl ⟨by rfl, ?_⟩; intro w hSw; (try dsimp only at hSw); go_simp; (try with_reducible rfl)
    · assumption
    try simp only [Act.put, sA, sB, sC]
    refine wpAnyH_take (i := 31) (oi := ?_) (v := ?_) ?_ ?_ ?_ ?_ ?_ ?_ ?_ ?_
    rotate_left 2
    · simp only [gA, gB, gC]; rfl
    · kernel_rfl
    · kernel_rfl
    · kernel_rfl
    · exact fun _ _ _ h => h
    · refine Or.inl ⟨by rfl, ?_⟩; intro w hSw; (try dsimp only at hSw); go_simp; (try with_reducible rfl)
    · assumption
    try simp only [Act.put, sA, sB, sC]
    refine wpAnyH_take (i := 32) (oi := ?_) (v := undef) ?_ ?_ ?_ ?_ ?_ ?_ ?_ ?_
    rotate_left
    · simp only [gA, gB, gC]; rfl
    · kernel_rfl
    · kernel_rfl
    · kernel_rfl
    · exact fun _ _ _ h => h
    · exact Or.inr ⟨by rfl, rfl⟩
    · assumption
    try simp only [Act.put, sA, sB, sC]
    refine wpAnyH_take (i := 33) (oi := ?_) (v := undef) ?_ ?_ ?_ ?_ ?_ ?_ ?_ ?_
    rotate_left
    · simp only [gA, gB, gC]; rfl
    · kernel_rfl
    · kernel_rfl
    · kernel_rfl
    · exact fun _ _ _ h => h
    · exact Or.inr ⟨by rfl, rfl⟩
    · assumption
    try simp only [Act.put, sA, sB, sC]
    refine wpAnyH_take (i := 34) (oi := ?_) (v := undef) ?_ ?_ ?_ ?_ ?_ ?_ ?_ ?_
    rotate_left
    · simp only [gA, gB, gC]; rfl
    · kernel_rfl
    · kernel_rfl
    · kernel_rfl
    · exact fun _ _ _ h => h
    · exact Or.inr ⟨by rfl, rfl⟩
    · assumption
    try simp only [Act.put, sA, sB, sC]
    refine wpAnyH_take (i := 35) (oi := ?_) (v := ?_) ?_ ?_ ?_ ?_ ?_ ?_ ?_ ?_
    rotate_left 2
    · simp only [gA, gB, gC]; rfl
    · kernel_rfl
    · kernel_rfl
    · kernel_rfl
    · exact fun _ _ _ h => h
    · refine Or.inl ⟨by rfl, ?_⟩; intro w hSw; (try dsimp only at hSw); go_simp; (try with_reducible rfl)
    · assumption
    try simp only [Act.put, sA, sB, sC]
    refine wpAnyH_take (i := 36) (oi := ?_) (v := ?_) ?_ ?_ ?_ ?_ ?_ ?_ ?_ ?_
    rotate_left 2
    · simp only [gA, gB, gC]; rfl
    · kernel_rfl
    · kernel_rfl
    · kernel_rfl
    · exact fun _ _ _ h => h
    · refine Or.inl ⟨by rfl, ?_⟩; intro w hSw; (try dsimp only at hSw); go_simp; (try with_reducible rfl)
    · assumption
    try simp only [Act.put, sA, sB, sC]
    refine wpAnyH_done (by kernel_rfl) ?_ _
    go_wp2_with fail
    go_ret
    exact ⟨ret_bool HZ.out, (TE.out.grow hk2).all⟩
  · by_cases hrn : rn = nc
    · have hne : ((rn : Int) == (nc : Int)) = true := by simp; omega
      have HRN := Lib.hid hrn
      clear hrn
      cases pv
      · have HZ := Lib.hid (show false = V by rw [HVE.out]; simp)
        refine wp_region_held_drew (S := (fun w' => w'.cell? ⟨w.heap.size, 0, none⟩ = some (.slice a nb ca) ∧ w'.cell? ⟨w.heap.size, 1, none⟩ = some (.slice b nb cb) ∧ w'.cell? ⟨w.heap.size, 2, none⟩ = some (.slice c nc cc) ∧ w'.cell? ⟨w.heap.size + 1, 1, none⟩ = some (.slice xa xn xc) ∧ w'.cell? ⟨w.heap.size + 1, 3, none⟩ = some (.slice ra rn rc) ∧ w'.cell? ⟨gx, 0, none⟩ = some (.int .i64 x1) ∧ w'.cell? ⟨gx, 1, none⟩ = some (.int .i64 x2) ∧ Ext E w')) (by kernel_rfl) ?_ (fun hHeld => ?_)
        · exact HKEEP.out _ hk2
        refine wpAnyH_take (i := 0) (oi := ?_) (v := ?_) ?_ ?_ ?_ ?_ ?_ ?_ ?_ ?_
        rotate_left 2
        · simp only [gA, gB, gC]; rfl
        · kernel_rfl
        · kernel_rfl
        · kernel_rfl
        · exact fun _ _ _ h => h
        · refine Or.inl ⟨by rfl, ?_⟩; intro w hSw; (try dsimp only at hSw); go_simp; (try with_reducible rfl)
        · assumption
        try simp only [Act.put, sA, sB, sC]
        refine wpAnyH_take (i := 1) (oi := ?_) (v := ?_) ?_ ?_ ?_ ?_ ?_ ?_ ?_ ?_
        rotate_left 2
        · simp only [gA, gB, gC]; rfl
        · kernel_rfl
        · kernel_rfl
        · kernel_rfl
        · exact fun _ _ _ h => h
        · refine Or.inl ⟨by rfl, ?_⟩; intro w hSw; (try dsimp only at hSw); go_simp; (try with_reducible rfl)
        · assumption
        try simp only [Act.put, sA, sB, sC]
        refine wpAnyH_take (i := 2) (oi := ?_) (v := ?_) ?_ ?_ ?_ ?_ ?_ ?_ ?_ ?_
        rotate_left 2
        · simp only [gA, gB, gC]; rfl
        · kernel_rfl
        · kernel_rfl
        · kernel_rfl
        · exact fun _ _ _ h => h
        · refine Or.inl ⟨by rfl, ?_⟩; intro w hSw; (try dsimp only at hSw); go_simp; (try with_reducible rfl)
        · assumption
        try simp only [Act.put, sA, sB, sC]
        refine wpAnyH_ready (rs := [3]) (by kernel_rfl) (by simp) ?_
        refine AllReadyH.cons (o := ?_) ?_ (fun K hK => ?_) AllReadyH.nil
        rotate_left
        · simp only [gA, gB, gC]; rfl
        go_simp
        (go_at_call 183; refine (HF.out _ (TE.out.grow hk2)).mono ?_; rintro e w3 ⟨rfl, hx3⟩; have hk2 := hk2.trans hx3)
        go_wp2_with fail
        refine hK.out _ _ ?_ (fun hHeld => ?_)
        · exact HKEEP.out _ hk2
        clear hK K
        try simp only [Act.put, sA, sB, sC]
        refine wpAnyH_take (i := 4) (oi := ?_) (v := ?_) ?_ ?_ ?_ ?_ ?_ ?_ ?_ ?_
        rotate_left 2
        · simp only [gA, gB, gC]; rfl
        · kernel_rfl
        · kernel_rfl
        · kernel_rfl
        · exact fun _ _ _ h => h
        · refine Or.inl ⟨by rfl, ?_⟩; intro w hSw; (try dsimp only at hSw); go_simp; (try with_reducible rfl)
        · assumption
        try simp only [Act.put, sA, sB, sC]
        refine wpAnyH_take (i := 5) (oi := ?_) (v := ?_) ?_ ?_ ?_ ?_ ?_ ?_ ?_ ?_
        rotate_left 2
        · simp only [gA, gB, gC]; rfl
        · kernel_rfl
        · kernel_rfl
        · kernel_rfl
        · exact fun _ _ _ h => h
        · refine Or.inl ⟨by rfl, ?_⟩; intro w hSw; (try dsimp only at hSw); go_simp; (try with_reducible rfl)
        · assumption
        try simp only [Act.put, sA, sB, sC]
        refine wpAnyH_take (i := 6) (oi := ?_) (v := ?_) ?_ ?_ ?_ ?_ ?_ ?_ ?_ ?_
        rotate_left 2
        · simp only [gA, gB, gC]; rfl
        · kernel_rfl
        · kernel_rfl
        · kernel_rfl
        · exact fun _ _ _ h => h
        · refine Or.inl ⟨by rfl, ?_⟩; intro w hSw; (try dsimp only at hSw); go_simp; (try with_reducible rfl)
        · assumption
        try simp only [Act.put, sA, sB, sC]
        refine wpAnyH_take (i := 7) (oi := ?_) (v := ?_) ?_ ?_ ?_ ?_ ?_ ?_ ?_ ?_
        rotate_left 2
        · simp only [gA, gB, gC]; rfl
        · kernel_rfl
        · kernel_rfl
        · kernel_rfl
        · exact fun _ _ _ h => h
        · refine Or.inl ⟨by rfl, ?_⟩; intro w hSw; (try dsimp only at hSw); go_simp; (try with_reducible rfl)
        · assumption
        try simp only [Act.put, sA, sB, sC]
        refine wpAnyH_take (i := 8) (oi := ?_) (v := ?_) ?_ ?_ ?_ ?_ ?_ ?_ ?_ ?_
        rotate_left 2
        · simp only [gA, gB, gC]; rfl
        · kernel_rfl
        · kernel_rfl
        · kernel_rfl
        · exact fun _ _ _ h => h
        · refine Or.inl ⟨by rfl, ?_⟩; intro w hSw; (try dsimp only at hSw); go_simp; (try with_reducible rfl)
        · assumption
        try simp only [Act.put, sA, sB, sC]
        refine wpAnyH_take (i := 9) (oi := ?_) (v := ?_) ?_ ?_ ?_ ?_ ?_ ?_ ?_ ?_
        rotate_left 2
        · simp only [gA, gB, gC]; rfl
        · kernel_rfl
        · kernel_rfl
        · kernel_rfl
        · exact fun _ _ _ h => h
        · refine Or.inl ⟨by rfl, ?_⟩; intro w hSw; (try dsimp only at hSw); go_simp; (try with_reducible rfl)
        · assumption
        try simp only [Act.put, sA, sB, sC]
        refine wpAnyH_take (i := 10) (oi := ?_) (v := ?_) ?_ ?_ ?_ ?_ ?_ ?_ ?_ ?_
        rotate_left 2
        · simp only [gA, gB, gC]; rfl
        · kernel_rfl
        · kernel_rfl
        · kernel_rfl
        · exact fun _ _ _ h => h
        · refine Or.inl ⟨by rfl, ?_⟩; intro w hSw; (try dsimp only at hSw); go_simp; (try with_reducible rfl)
        · assumption
        try simp only [Act.put, sA, sB, sC]
        refine wpAnyH_take (i := 11) (oi := ?_) (v := ?_) ?_ ?_ ?_ ?_ ?_ ?_ ?_ ?_
        rotate_left 2
        · simp only [gA, gB, gC]; rfl
        · kernel_rfl
        · kernel_rfl
        · kernel_rfl
        · exact fun _ _ _ h => h
        · refine Or.inl ⟨by rfl, ?_⟩; intro w hSw; (try dsimp only at hSw); go_simp; (try with_reducible rfl)
        · assumption
        try simp only [Act.put, sA, sB, sC]
        refine wpAnyH_take (i := 12) (oi := ?_) (v := ?_) ?_ ?_ ?_ ?_ ?_ ?_ ?_ ?_
        rotate_left 2
        · simp only [gA, gB, gC]; rfl
        · kernel_rfl
        · kernel_rfl
        · kernel_rfl
        · exact fun _ _ _ h => h
        · refine Or.inl ⟨by rfl, ?_⟩; intro w hSw; (try dsimp only at hSw); go_simp; (try with_reducible rfl)
        · assumption
        try simp only [Act.put, sA, sB, sC]
        refine wpAnyH_take (i := 13) (oi := ?_) (v := ?_) ?_ ?_ ?_ ?_ ?_ ?_ ?_ ?_
        rotate_left 2
        · simp only [gA, gB, gC]; rfl
        · kernel_rfl
        · kernel_rfl
        · kernel_rfl
        · exact fun _ _ _ h => h
        · refine Or.inl ⟨by rfl, ?_⟩; intro w hSw; (try dsimp only at hSw); go_simp; (try with_reducible rfl)
        · assumption
        try simp only [Act.put, sA, sB, sC]
        refine wpAnyH_take (i := 14) (oi := ?_) (v := ?_) ?_ ?_ ?_ ?_ ?_ ?_ ?_ ?_
        rotate_left 2
        · simp only [gA, gB, gC]; rfl
        · kernel_rfl
        · kernel_rfl
        · kernel_rfl
        · exact fun _ _ _ h => h
        · refine Or.inl ⟨by rfl, ?_⟩; intro w hSw; (try dsimp only at hSw); go_simp; (try with_reducible rfl)
        · assumption
        try simp only [Act.put, sA, sB, sC]
        refine wpAnyH_take (i := 15) (oi := ?_) (v := ?_) ?_ ?_ ?_ ?_ ?_ ?_ ?_ ?_
        rotate_left 2
        · simp only [gA, gB, gC]; rfl
        · kernel_rfl
        · kernel_rfl
        · kernel_rfl
        · exact fun _ _ _ h => h
        · refine Or.inl ⟨by rfl, ?_⟩; intro w hSw; (try dsimp only at hSw); go_simp; (try with_reducible rfl)
        · assumption
        try simp only [Act.put, sA, sB, sC]
        refine wpAnyH_ready (rs := [16]) (by kernel_rfl) (by simp) ?_
        refine AllReadyH.cons (o := ?_) ?_ (fun K hK => ?_) AllReadyH.nil
        rotate_left
        · simp only [gA, gB, gC]; rfl
        go_simp
        (go_at_call 184; refine (HN.out _ (TE.out.grow hk2)).mono ?_; rintro e w4 ⟨rfl, hx4⟩; have hk2 := hk2.trans hx4)
        go_wp2_with fail
        refine hK.out _ _ ?_ (fun hHeld => ?_)
        · exact HKEEP.out _ hk2
        clear hK K
        try simp only [Act.put, sA, sB, sC]
        refine wpAnyH_take (i := 17) (oi := ?_) (v := ?_) ?_ ?_ ?_ ?_ ?_ ?_ ?_ ?_
        rotate_left 2
        · simp only [gA, gB, gC]; rfl
        · kernel_rfl
        · kernel_rfl
        · kernel_rfl
        · exact fun _ _ _ h => h
        · refine Or.inl ⟨by rfl, ?_⟩; intro w hSw; (try dsimp only at hSw); go_simp; (try with_reducible rfl)
        · assumption
        try simp only [Act.put, sA, sB, sC]
        refine wpAnyH_take (i := 18) (oi := ?_) (v := ?_) ?_ ?_ ?_ ?_ ?_ ?_ ?_ ?_
        rotate_left 2
        · simp only [gA, gB, gC]; rfl
        · kernel_rfl
        · kernel_rfl
        · kernel_rfl
        · exact fun _ _ _ h => h
        · refine Or.inl ⟨by rfl, ?_⟩; intro w hSw; (try dsimp only at hSw); go_simp; (try with_reducible rfl)
        · assumption
        try simp only [Act.put, sA, sB, sC]
        refine wpAnyH_take (i := 19) (oi := ?_) (v := undef) ?_ ?_ ?_ ?_ ?_ ?_ ?_ ?_
        rotate_left
        · simp only [gA, gB, gC]; rfl
        · kernel_rfl
        · kernel_rfl
        · kernel_rfl
        · exact fun _ _ _ h => h
        · exact Or.inr ⟨by rfl, rfl⟩
        · assumption
        try simp only [Act.put, sA, sB, sC]
        refine wpAnyH_take (i := 20) (oi := ?_) (v := undef) ?_ ?_ ?_ ?_ ?_ ?_ ?_ ?_
        rotate_left
        · simp only [gA, gB, gC]; rfl
        · kernel_rfl
        · kernel_rfl
        · kernel_rfl
        · exact fun _ _ _ h => h
        · exact Or.inr ⟨by rfl, rfl⟩
        · assumption
        try simp only [Act.put, sA, sB, sC]
        refine wpAnyH_take (i := 21) (oi := ?_) (v := undef) ?_ ?_ ?_ ?_ ?_ ?_ ?_ ?_
        rotate_left
        · simp only [gA, gB, gC]; rfl
        · kernel_rfl
        · kernel_rfl
        · kernel_rfl
        · exact fun _ _ _ h => h
        · exact Or.inr ⟨by rfl, rfl⟩
        · assumption
        try simp only [Act.put, sA, sB, sC]
        refine wpAnyH_take (i := 22) (oi := ?_) (v := undef) ?_ ?_ ?_ ?_ ?_ ?_ ?_ ?_
        rotate_left
        · simp only [gA, gB, gC]; rfl
        · kernel_rfl
        · kernel_rfl
        · kernel_rfl
        · exact fun _ _ _ h => h
        · exact Or.inr ⟨by rfl, rfl⟩
        · assumption
        try simp only [Act.put, sA, sB, sC]
        refine wpAnyH_take (i := 23) (oi := ?_) (v := undef) ?_ ?_ ?_ ?_ ?_ ?_ ?_ ?_
        rotate_left
        · simp only [gA, gB, gC]; rfl
        · kernel_rfl
        · kernel_rfl
        · kernel_rfl
        · exact fun _ _ _ h => h
        · exact Or.inr ⟨by rfl, rfl⟩
        · assumption
        try simp only [Act.put, sA, sB, sC]
        refine wpAnyH_take (i := 24) (oi := ?_) (v := undef) ?_ ?_ ?_ ?_ ?_ ?_ ?_ ?_
        rotate_left
        · simp only [gA, gB, gC]; rfl
        · kernel_rfl
        · kernel_rfl
        · kernel_rfl
        · exact fun _ _ _ h => h
        · exact Or.inr ⟨by rfl, rfl⟩
        · assumption
        try simp only [Act.put, sA, sB, sC]
        refine wpAnyH_take (i := 25) (oi := ?_) (v := undef) ?_ ?_ ?_ ?_ ?_ ?_ ?_ ?_
        rotate_left
        · simp only [gA, gB, gC]; rfl
        · kernel_rfl
        · kernel_rfl
        · kernel_rfl
        · exact fun _ _ _ h => h
        · exact Or.inr ⟨by rfl, rfl⟩
        · assumption
        try simp only [Act.put, sA, sB, sC]
        refine wpAnyH_take (i := 26) (oi := ?_) (v := undef) ?_ ?_ ?_ ?_ ?_ ?_ ?_ ?_
        rotate_left
        · simp only [gA, gB, gC]; rfl
        · kernel_rfl
        · kernel_rfl
        · kernel_rfl
        · exact fun _ _ _ h => h
        · exact Or.inr ⟨by rfl, rfl⟩
        · assumption
        try simp only [Act.put, sA, sB, sC]
        refine wpAnyH_take (i := 27) (oi := ?_) (v := ?_) ?_ ?_ ?_ ?_ ?_ ?_ ?_ ?_
        rotate_left 2
        · simp only [gA, gB, gC]; rfl
        · kernel_rfl
        · kernel_rfl
        · kernel_rfl
        · exact fun _ _ _ h => h
        · refine Or.inl ⟨by rfl, ?_⟩; intro w hSw; (try dsimp only at hSw); go_simp; (try with_reducible rfl)
        · assumption
        try simp only [Act.put, sA, sB, sC]
        refine wpAnyH_take (i := 28) (oi := ?_) (v := ?_) ?_ ?_ ?_ ?_ ?_ ?_ ?_ ?_
        rotate_left 2
        · simp only [gA, gB, gC]; rfl
        · kernel_rfl
        · kernel_rfl
        · kernel_rfl
        · exact fun _ _ _ h => h
        · refine Or.inl ⟨by rfl, ?_⟩; intro w hSw; (try dsimp only at hSw); go_simp; (try with_reducible rfl)
        · assumption
        try simp only [Act.put, sA, sB, sC]
        refine wpAnyH_take (i := 29) (oi := ?_) (v := undef) ?_ ?_ ?_ ?_ ?_ ?_ ?_ ?_
        rotate_left
        · simp only [gA, gB, gC]; rfl
        · kernel_rfl
        · kernel_rfl
        · kernel_rfl
        · exact fun _ _ _ h => h
        · exact Or.inr ⟨by rfl, rfl⟩
        · assumption
        try simp only [Act.put, sA, sB, sC]
        refine wpAnyH_take (i := 30) (oi := ?_) (v := ?_) ?_ ?_ ?_ ?_ ?_ ?_ ?_ ?_
        rotate_left 2
        · simp only [gA, gB, gC]; rfl
        · kernel_rfl
        · kernel_rfl
        · kernel_rfl
        · exact fun _ _ _ h => h
        · refine Or.inl ⟨by rfl, ?_⟩; intro w hSw; (try dsimp only at hSw); go_simp; (try with_reducible rfl)
        · assumption
        try simp only [Act.put, sA, sB, sC]
        refine wpAnyH_take (i := 31) (oi := ?_) (v := ?_) ?_ ?_ ?_ ?_ ?_ ?_ ?_ ?_
        rotate_left 2
        · simp only [gA, gB, gC]; rfl
        · kernel_rfl
        · kernel_rfl
        · kernel_rfl
        · exact fun _ _ _ h => h
        · refine Or.inl ⟨by rfl, ?_⟩; intro w hSw; (try dsimp only at hSw); go_simp; (try with_reducible rfl)
        · assumption
        try simp only [Act.put, sA, sB, sC]
        refine wpAnyH_take (i := 32) (oi := ?_) (v := undef) ?_ ?_ ?_ ?_ ?_ ?_ ?_ ?_
        rotate_left
        · simp only [gA, gB, gC]; rfl
        · kernel_rfl
        · kernel_rfl
        · kernel_rfl
        · exact fun _ _ _ h => h
        · exact Or.inr ⟨by rfl, rfl⟩
        · assumption
        try simp only [Act.put, sA, sB, sC]
        refine wpAnyH_take (i := 33) (oi := ?_) (v := undef) ?_ ?_ ?_ ?_ ?_ ?_ ?_ ?_
        rotate_left
        · simp only [gA, gB, gC]; rfl
        · kernel_rfl
        · kernel_rfl
        · kernel_rfl
        · exact fun _ _ _ h => h
        · exact Or.inr ⟨by rfl, rfl⟩
        · assumption
        try simp only [Act.put, sA, sB, sC]
        refine wpAnyH_take (i := 34) (oi := ?_) (v := undef) ?_ ?_ ?_ ?_ ?_ ?_ ?_ ?_
        rotate_left
        · simp only [gA, gB, gC]; rfl
        · kernel_rfl
        · kernel_rfl
        · kernel_rfl
        · exact fun _ _ _ h => h
        · exact Or.inr ⟨by rfl, rfl⟩
        · assumption
        try simp only [Act.put, sA, sB, sC]
        refine wpAnyH_take (i := 35) (oi := ?_) (v := ?_) ?_ ?_ ?_ ?_ ?_ ?_ ?_ ?_
        rotate_left 2
        · simp only [gA, gB, gC]; rfl
        · kernel_rfl
        · kernel_rfl
        · kernel_rfl
        · exact fun _ _ _ h => h
        · refine Or.inl ⟨by rfl, ?_⟩; intro w hSw; (try dsimp only at hSw); go_simp; (try with_reducible rfl)
        · assumption
        try simp only [Act.put, sA, sB, sC]
        refine wpAnyH_take (i := 36) (oi := ?_) (v := ?_) ?_ ?_ ?_ ?_ ?_ ?_ ?_ ?_
        rotate_left 2
        · simp only [gA, gB, gC]; rfl
        · kernel_rfl
        · kernel_rfl
        · kernel_rfl
        · exact fun _ _ _ h => h
        · refine Or.inl ⟨by rfl, ?_⟩; intro w hSw; (try dsimp only at hSw); go_simp; (try with_reducible rfl)
        · assumption
        try simp only [Act.put, sA, sB, sC]
        refine wpAnyH_done (by kernel_rfl) ?_ _
        go_wp2_with fail
        go_ret
        exact ⟨ret_bool HZ.out, (TE.out.grow hk2).all⟩
      · cases gv
        · have HZ := Lib.hid (show false = V by rw [HVE.out]; simp)
          refine wp_region_held_drew (S := (fun w' => w'.cell? ⟨w.heap.size, 0, none⟩ = some (.slice a nb ca) ∧ w'.cell? ⟨w.heap.size, 1, none⟩ = some (.slice b nb cb) ∧ w'.cell? ⟨w.heap.size, 2, none⟩ = some (.slice c nc cc) ∧ w'.cell? ⟨w.heap.size + 1, 1, none⟩ = some (.slice xa xn xc) ∧ w'.cell? ⟨w.heap.size + 1, 3, none⟩ = some (.slice ra rn rc) ∧ w'.cell? ⟨gx, 0, none⟩ = some (.int .i64 x1) ∧ w'.cell? ⟨gx, 1, none⟩ = some (.int .i64 x2) ∧ Ext E w')) (by kernel_rfl) ?_ (fun hHeld => ?_)
          · exact HKEEP.out _ hk2
          refine wpAnyH_take (i := 0) (oi := ?_) (v := ?_) ?_ ?_ ?_ ?_ ?_ ?_ ?_ ?_
          rotate_left 2
          · simp only [gA, gB, gC]; rfl
          · kernel_rfl
          · kernel_rfl
          · kernel_rfl
          · exact fun _ _ _ h => h
          · refine Or.inl ⟨by rfl, ?_⟩; intro w hSw; (try dsimp only at hSw); go_simp; (try with_reducible rfl)
          · assumption
          try simp only [Act.put, sA, sB, sC]
          refine wpAnyH_take (i := 1) (oi := ?_) (v := ?_) ?_ ?_ ?_ ?_ ?_ ?_ ?_ ?_
          rotate_left 2
          · simp only [gA, gB, gC]; rfl
          · kernel_rfl
          · kernel_rfl
          · kernel_rfl
          · exact fun _ _ _ h => h
          · refine Or.inl ⟨by rfl, ?_⟩; intro w hSw; (try dsimp only at hSw); go_simp; (try with_reducible rfl)
          · assumption
          try simp only [Act.put, sA, sB, sC]
          refine wpAnyH_take (i := 2) (oi := ?_) (v := ?_) ?_ ?_ ?_ ?_ ?_ ?_ ?_ ?_
          rotate_left 2
          · simp only [gA, gB, gC]; rfl
          · kernel_rfl
          · kernel_rfl
          · kernel_rfl
          · exact fun _ _ _ h => h
          · refine Or.inl ⟨by rfl, ?_⟩; intro w hSw; (try dsimp only at hSw); go_simp; (try with_reducible rfl)
          · assumption
          try simp only [Act.put, sA, sB, sC]
          refine wpAnyH_ready (rs := [3]) (by kernel_rfl) (by simp) ?_
          refine AllReadyH.cons (o := ?_) ?_ (fun K hK => ?_) AllReadyH.nil
          rotate_left
          · simp only [gA, gB, gC]; rfl
          go_simp
          (go_at_call 183; refine (HF.out _ (TE.out.grow hk2)).mono ?_; rintro e w3 ⟨rfl, hx3⟩; have hk2 := hk2.trans hx3)
          go_wp2_with fail
          refine hK.out _ _ ?_ (fun hHeld => ?_)
          · exact HKEEP.out _ hk2
          clear hK K
          try simp only [Act.put, sA, sB, sC]
          refine wpAnyH_take (i := 4) (oi := ?_) (v := ?_) ?_ ?_ ?_ ?_ ?_ ?_ ?_ ?_
          rotate_left 2
          · simp only [gA, gB, gC]; rfl
          · kernel_rfl
          · kernel_rfl
          · kernel_rfl
          · exact fun _ _ _ h => h
          · refine Or.inl ⟨by rfl, ?_⟩; intro w hSw; (try dsimp only at hSw); go_simp; (try with_reducible rfl)
          · assumption
          try simp only [Act.put, sA, sB, sC]
          refine wpAnyH_take (i := 5) (oi := ?_) (v := ?_) ?_ ?_ ?_ ?_ ?_ ?_ ?_ ?_
          rotate_left 2
          · simp only [gA, gB, gC]; rfl
          · kernel_rfl
          · kernel_rfl
          · kernel_rfl
          · exact fun _ _ _ h => h
          · refine Or.inl ⟨by rfl, ?_⟩; intro w hSw; (try dsimp only at hSw); go_simp; (try with_reducible rfl)
          · assumption
          try simp only [Act.put, sA, sB, sC]
          refine wpAnyH_take (i := 6) (oi := ?_) (v := ?_) ?_ ?_ ?_ ?_ ?_ ?_ ?_ ?_
          rotate_left 2
          · simp only [gA, gB, gC]; rfl
          · kernel_rfl
          · kernel_rfl
          · kernel_rfl
          · exact fun _ _ _ h => h
          · refine Or.inl ⟨by rfl, ?_⟩; intro w hSw; (try dsimp only at hSw); go_simp; (try with_reducible rfl)
          · assumption
          try simp only [Act.put, sA, sB, sC]
          refine wpAnyH_take (i := 7) (oi := ?_) (v := ?_) ?_ ?_ ?_ ?_ ?_ ?_ ?_ ?_
          rotate_left 2
          · simp only [gA, gB, gC]; rfl
          · kernel_rfl
          · kernel_rfl
          · kernel_rfl
          · exact fun _ _ _ h => h
          · refine Or.inl ⟨by rfl, ?_⟩; intro w hSw; (try dsimp only at hSw); go_simp; (try with_reducible rfl)
          · assumption
          try simp only [Act.put, sA, sB, sC]
          refine wpAnyH_take (i := 8) (oi := ?_) (v := ?_) ?_ ?_ ?_ ?_ ?_ ?_ ?_ ?_
          rotate_left 2
          · simp only [gA, gB, gC]; rfl
          · kernel_rfl
          · kernel_rfl
          · kernel_rfl
          · exact fun _ _ _ h => h
          · refine Or.inl ⟨by rfl, ?_⟩; intro w hSw; (try dsimp only at hSw); go_simp; (try with_reducible rfl)
          · assumption
          try simp only [Act.put, sA, sB, sC]
          refine wpAnyH_take (i := 9) (oi := ?_) (v := ?_) ?_ ?_ ?_ ?_ ?_ ?_ ?_ ?_
          rotate_left 2
          · simp only [gA, gB, gC]; rfl
          · kernel_rfl
          · kernel_rfl
          · kernel_rfl
          · exact fun _ _ _ h => h
          · refine Or.inl ⟨by rfl, ?_⟩; intro w hSw; (try dsimp only at hSw); go_simp; (try with_reducible rfl)
          · assumption
          try simp only [Act.put, sA, sB, sC]
          refine wpAnyH_take (i := 10) (oi := ?_) (v := ?_) ?_ ?_ ?_ ?_ ?_ ?_ ?_ ?_
          rotate_left 2
          · simp only [gA, gB, gC]; rfl
          · kernel_rfl
          · kernel_rfl
          · kernel_rfl
          · exact fun _ _ _ h => h
          · refine Or.inl ⟨by rfl, ?_⟩; intro w hSw; (try dsimp only at hSw); go_simp; (try with_reducible rfl)
          · assumption
          try simp only [Act.put, sA, sB, sC]
          refine wpAnyH_take (i := 11) (oi := ?_) (v := ?_) ?_ ?_ ?_ ?_ ?_ ?_ ?_ ?_
          rotate_left 2
          · simp only [gA, gB, gC]; rfl
          · kernel_rfl
          · kernel_rfl
          · kernel_rfl
          · exact fun _ _ _ h => h
          · refine Or.inl ⟨by rfl, ?_⟩; intro w hSw; (try dsimp only at hSw); go_simp; (try with_reducible rfl)
          · assumption
          try simp only [Act.put, sA, sB, sC]
          refine wpAnyH_take (i := 12) (oi := ?_) (v := ?_) ?_ ?_ ?_ ?_ ?_ ?_ ?_ ?_
          rotate_left 2
          · simp only [gA, gB, gC]; rfl
          · kernel_rfl
          · kernel_rfl
          · kernel_rfl
          · exact fun _ _ _ h => h
          · refine Or.inl ⟨by rfl, ?_⟩; intro w hSw; (try dsimp only at hSw); go_simp; (try with_reducible rfl)
          · assumption
          try simp only [Act.put, sA, sB, sC]
          refine wpAnyH_take (i := 13) (oi := ?_) (v := ?_) ?_ ?_ ?_ ?_ ?_ ?_ ?_ ?_
          rotate_left 2
          · simp only [gA, gB, gC]; rfl
          · kernel_rfl
          · kernel_rfl
          · kernel_rfl
          · exact fun _ _ _ h => h
          · refine Or.inl ⟨by rfl, ?_⟩; intro w hSw; (try dsimp only at hSw); go_simp; (try with_reducible rfl)
          · assumption
          try simp only [Act.put, sA, sB, sC]
          refine wpAnyH_take (i := 14) (oi := ?_) (v := ?_) ?_ ?_ ?_ ?_ ?_ ?_ ?_ ?_
          rotate_left 2
          · simp only [gA, gB, gC]; rfl
          · kernel_rfl
          · kernel_rfl
          · kernel_rfl
          · exact fun _ _ _ h => h
          · refine Or.inl ⟨by rfl, ?_⟩; intro w hSw; (try dsimp only at hSw); go_simp; (try with_reducible rfl)
          · assumption
          try simp only [Act.put, sA, sB, sC]
          refine wpAnyH_take (i := 15) (oi := ?_) (v := ?_) ?_ ?_ ?_ ?_ ?_ ?_ ?_ ?_
          rotate_left 2
          · simp only [gA, gB, gC]; rfl
          · kernel_rfl
          · kernel_rfl
          · kernel_rfl
          · exact fun _ _ _ h => h
          · refine Or.inl ⟨by rfl, ?_⟩; intro w hSw; (try dsimp only at hSw); go_simp; (try with_reducible rfl)
          · assumption
          try simp only [Act.put, sA, sB, sC]
          refine wpAnyH_ready (rs := [16]) (by kernel_rfl) (by simp) ?_
          refine AllReadyH.cons (o := ?_) ?_ (fun K hK => ?_) AllReadyH.nil
          rotate_left
          · simp only [gA, gB, gC]; rfl
          go_simp
          (go_at_call 184; refine (HN.out _ (TE.out.grow hk2)).mono ?_; rintro e w4 ⟨rfl, hx4⟩; have hk2 := hk2.trans hx4)
          go_wp2_with fail
          refine hK.out _ _ ?_ (fun hHeld => ?_)
          · exact HKEEP.out _ hk2
          clear hK K
          try simp only [Act.put, sA, sB, sC]
          refine wpAnyH_take (i := 17) (oi := ?_) (v := ?_) ?_ ?_ ?_ ?_ ?_ ?_ ?_ ?_
          rotate_left 2
          · simp only [gA, gB, gC]; rfl
          · kernel_rfl
          · kernel_rfl
          · kernel_rfl
          · exact fun _ _ _ h => h
          · refine Or.inl ⟨by rfl, ?_⟩; intro w hSw; (try dsimp only at hSw); go_simp; (try with_reducible rfl)
          · assumption
          try simp only [Act.put, sA, sB, sC]
          refine wpAnyH_take (i := 18) (oi := ?_) (v := ?_) ?_ ?_ ?_ ?_ ?_ ?_ ?_ ?_
          rotate_left 2
          · simp only [gA, gB, gC]; rfl
          · kernel_rfl
          · kernel_rfl
          · kernel_rfl
          · exact fun _ _ _ h => h
          · refine Or.inl ⟨by rfl, ?_⟩; intro w hSw; (try dsimp only at hSw); go_simp; (try with_reducible rfl)
          · assumption
          try simp only [Act.put, sA, sB, sC]
          refine wpAnyH_take (i := 19) (oi := ?_) (v := ?_) ?_ ?_ ?_ ?_ ?_ ?_ ?_ ?_
          rotate_left 2
          · simp only [gA, gB, gC]; rfl
          · kernel_rfl
          · kernel_rfl
          · kernel_rfl
          · exact fun _ _ _ h => h
          · refine Or.inl ⟨by rfl, ?_⟩; intro w hSw; (try dsimp only at hSw); go_simp; (try with_reducible rfl)
          · assumption
          try simp only [Act.put, sA, sB, sC]
          refine wpAnyH_take (i := 20) (oi := ?_) (v := ?_) ?_ ?_ ?_ ?_ ?_ ?_ ?_ ?_
          rotate_left 2
          · simp only [gA, gB, gC]; rfl
          · kernel_rfl
          · kernel_rfl
          · kernel_rfl
          · exact fun _ _ _ h => h
          · refine Or.inl ⟨by rfl, ?_⟩; intro w hSw; (try dsimp only at hSw); go_simp; (try with_reducible rfl)
          · assumption
          try simp only [Act.put, sA, sB, sC]
          refine wpAnyH_take (i := 21) (oi := ?_) (v := ?_) ?_ ?_ ?_ ?_ ?_ ?_ ?_ ?_
          rotate_left 2
          · simp only [gA, gB, gC]; rfl
          · kernel_rfl
          · kernel_rfl
          · kernel_rfl
          · exact fun _ _ _ h => h
          · refine Or.inl ⟨by rfl, ?_⟩; intro w hSw; (try dsimp only at hSw); go_simp; (try with_reducible rfl)
          · assumption
          try simp only [Act.put, sA, sB, sC]
          refine wpAnyH_take (i := 22) (oi := ?_) (v := ?_) ?_ ?_ ?_ ?_ ?_ ?_ ?_ ?_
          rotate_left 2
          · simp only [gA, gB, gC]; rfl
          · kernel_rfl
          · kernel_rfl
          · kernel_rfl
          · exact fun _ _ _ h => h
          · refine Or.inl ⟨by rfl, ?_⟩; intro w hSw; (try dsimp only at hSw); go_simp; (try with_reducible rfl)
          · assumption
          try simp only [Act.put, sA, sB, sC]
          refine wpAnyH_take (i := 23) (oi := ?_) (v := ?_) ?_ ?_ ?_ ?_ ?_ ?_ ?_ ?_
          rotate_left 2
          · simp only [gA, gB, gC]; rfl
          · kernel_rfl
          · kernel_rfl
          · kernel_rfl
          · exact fun _ _ _ h => h
          · refine Or.inl ⟨by rfl, ?_⟩; intro w hSw; (try dsimp only at hSw); go_simp; (try with_reducible rfl)
          · assumption
          try simp only [Act.put, sA, sB, sC]
          refine wpAnyH_take (i := 24) (oi := ?_) (v := ?_) ?_ ?_ ?_ ?_ ?_ ?_ ?_ ?_
          rotate_left 2
          · simp only [gA, gB, gC]; rfl
          · kernel_rfl
          · kernel_rfl
          · kernel_rfl
          · exact fun _ _ _ h => h
          · refine Or.inl ⟨by rfl, ?_⟩; intro w hSw; (try dsimp only at hSw); go_simp; (try with_reducible rfl)
          · assumption
          try simp only [Act.put, sA, sB, sC]
          have TG := Lib.hid (TE.out.grow hk2)
          have hk9 := hk2
          have hk2 := hk9.trans (Ext.alloc w4 (.cells (intCells (List.replicate nb 0)) 3))
          refine wpAnyH_ready (rs := [25]) (by kernel_rfl) (by simp) ?_
          refine AllReadyH.cons (o := ?_) ?_ (fun K hK => ?_) AllReadyH.nil
          rotate_left
          · simp only [gA, gB, gC]; rfl
          go_simp
          refine hK.out _ _ ?_ (fun hHeld => ?_)
          · exact HKEEP.out _ hk2
          clear hK K
          try simp only [Act.put, sA, sB, sC]
          refine wpAnyH_ready (rs := [26]) (by kernel_rfl) (by simp) ?_
          refine AllReadyH.cons (o := ?_) ?_ (fun K hK => ?_) AllReadyH.nil
          rotate_left
          · simp only [gA, gB, gC]; rfl
          go_simp
          (go_at_call 185; refine (HGV.out _ TG.out).mono ?_; rintro e w5 ⟨rfl, hx5⟩; have hk2 := hk2.trans hx5)
          go_wp2_with fail
          refine hK.out _ _ ?_ (fun hHeld => ?_)
          · exact HKEEP.out _ hk2
          clear hK K
          try simp only [Act.put, sA, sB, sC]
          refine wpAnyH_take (i := 27) (oi := ?_) (v := ?_) ?_ ?_ ?_ ?_ ?_ ?_ ?_ ?_
          rotate_left 2
          · simp only [gA, gB, gC]; rfl
          · kernel_rfl
          · kernel_rfl
          · kernel_rfl
          · exact fun _ _ _ h => h
          · refine Or.inl ⟨by rfl, ?_⟩; intro w hSw; (try dsimp only at hSw); go_simp; (try with_reducible rfl)
          · assumption
          try simp only [Act.put, sA, sB, sC]
          refine wpAnyH_take (i := 28) (oi := ?_) (v := ?_) ?_ ?_ ?_ ?_ ?_ ?_ ?_ ?_
          rotate_left 2
          · simp only [gA, gB, gC]; rfl
          · kernel_rfl
          · kernel_rfl
          · kernel_rfl
          · exact fun _ _ _ h => h
          · refine Or.inl ⟨by rfl, ?_⟩; intro w hSw; (try dsimp only at hSw); go_simp; (try with_reducible rfl)
          · assumption
          try simp only [Act.put, sA, sB, sC]
          refine wpAnyH_take (i := 29) (oi := ?_) (v := undef) ?_ ?_ ?_ ?_ ?_ ?_ ?_ ?_
          rotate_left
          · simp only [gA, gB, gC]; rfl
          · kernel_rfl
          · kernel_rfl
          · kernel_rfl
          · exact fun _ _ _ h => h
          · exact Or.inr ⟨by rfl, rfl⟩
          · assumption
          try simp only [Act.put, sA, sB, sC]
          refine wpAnyH_take (i := 30) (oi := ?_) (v := ?_) ?_ ?_ ?_ ?_ ?_ ?_ ?_ ?_
          rotate_left 2
          · simp only [gA, gB, gC]; rfl
          · kernel_rfl
          · kernel_rfl
          · kernel_rfl
          · exact fun _ _ _ h => h
          · refine Or.inl ⟨by rfl, ?_⟩; intro w hSw; (try dsimp only at hSw); go_simp; (try with_reducible rfl)
          · assumption
          try simp only [Act.put, sA, sB, sC]
          refine wpAnyH_take (i := 31) (oi := ?_) (v := ?_) ?_ ?_ ?_ ?_ ?_ ?_ ?_ ?_
          rotate_left 2
          · simp only [gA, gB, gC]; rfl
          · kernel_rfl
          · kernel_rfl
          · kernel_rfl
          · exact fun _ _ _ h => h
          · refine Or.inl ⟨by rfl, ?_⟩; intro w hSw; (try dsimp only at hSw); go_simp; (try with_reducible rfl)
          · assumption
          try simp only [Act.put, sA, sB, sC]
          refine wpAnyH_take (i := 32) (oi := ?_) (v := undef) ?_ ?_ ?_ ?_ ?_ ?_ ?_ ?_
          rotate_left
          · simp only [gA, gB, gC]; rfl
          · kernel_rfl
          · kernel_rfl
          · kernel_rfl
          · exact fun _ _ _ h => h
          · exact Or.inr ⟨by rfl, rfl⟩
          · assumption
          try simp only [Act.put, sA, sB, sC]
          refine wpAnyH_take (i := 33) (oi := ?_) (v := undef) ?_ ?_ ?_ ?_ ?_ ?_ ?_ ?_
          rotate_left
          · simp only [gA, gB, gC]; rfl
          · kernel_rfl
          · kernel_rfl
          · kernel_rfl
          · exact fun _ _ _ h => h
          · exact Or.inr ⟨by rfl, rfl⟩
          · assumption
          try simp only [Act.put, sA, sB, sC]
          refine wpAnyH_take (i := 34) (oi := ?_) (v := undef) ?_ ?_ ?_ ?_ ?_ ?_ ?_ ?_
          rotate_left
          · simp only [gA, gB, gC]; rfl
          · kernel_rfl
          · kernel_rfl
          · kernel_rfl
          · exact fun _ _ _ h => h
          · exact Or.inr ⟨by rfl, rfl⟩
          · assumption
          try simp only [Act.put, sA, sB, sC]
          refine wpAnyH_take (i := 35) (oi := ?_) (v := ?_) ?_ ?_ ?_ ?_ ?_ ?_ ?_ ?_
          rotate_left 2
          · simp only [gA, gB, gC]; rfl
          · kernel_rfl
          · kernel_rfl
          · kernel_rfl
          · exact fun _ _ _ h => h
          · refine Or.inl ⟨by rfl, ?_⟩; intro w hSw; (try dsimp only at hSw); go_simp; (try with_reducible rfl)
          · assumption
          try simp only [Act.put, sA, sB, sC]
          refine wpAnyH_take (i := 36) (oi := ?_) (v := ?_) ?_ ?_ ?_ ?_ ?_ ?_ ?_ ?_
          rotate_left 2
          · simp only [gA, gB, gC]; rfl
          · kernel_rfl
          · kernel_rfl
          · kernel_rfl
          · exact fun _ _ _ h => h
          · refine Or.inl ⟨by rfl, ?_⟩; intro w hSw; (try dsimp only at hSw); go_simp; (try with_reducible rfl)
          · assumption
          try simp only [Act.put, sA, sB, sC]
          refine wpAnyH_done (by kernel_rfl) ?_ _
          go_wp2_with fail
          go_ret
          exact ⟨ret_bool HZ.out, (TE.out.grow hk2).all⟩
        · cases xok
          · have HZ := Lib.hid (show false = V by rw [HVE.out, HXX.out, decide_eq_true HRN.out]; simp)
            refine wp_region_held_drew (S := (fun w' => w'.cell? ⟨w.heap.size, 0, none⟩ = some (.slice a nb ca) ∧ w'.cell? ⟨w.heap.size, 1, none⟩ = some (.slice b nb cb) ∧ w'.cell? ⟨w.heap.size, 2, none⟩ = some (.slice c nc cc) ∧ w'.cell? ⟨w.heap.size + 1, 1, none⟩ = some (.slice xa xn xc) ∧ w'.cell? ⟨w.heap.size + 1, 3, none⟩ = some (.slice ra rn rc) ∧ w'.cell? ⟨gx, 0, none⟩ = some (.int .i64 x1) ∧ w'.cell? ⟨gx, 1, none⟩ = some (.int .i64 x2) ∧ Ext E w')) (by kernel_rfl) ?_ (fun hHeld => ?_)
            · exact HKEEP.out _ hk2
            refine wpAnyH_take (i := 0) (oi := ?_) (v := ?_) ?_ ?_ ?_ ?_ ?_ ?_ ?_ ?_
            rotate_left 2
            · simp only [gA, gB, gC]; rfl
            · kernel_rfl
            · kernel_rfl
            · kernel_rfl
            · exact fun _ _ _ h => h
            · refine Or.inl ⟨by rfl, ?_⟩; intro w hSw; (try dsimp only at hSw); go_simp; (try with_reducible rfl)
            · assumption
            try simp only [Act.put, sA, sB, sC]
            refine wpAnyH_take (i := 1) (oi := ?_) (v := ?_) ?_ ?_ ?_ ?_ ?_ ?_ ?_ ?_
            rotate_left 2
            · simp only [gA, gB, gC]; rfl
            · kernel_rfl
            · kernel_rfl
            · kernel_rfl
            · exact fun _ _ _ h => h
            · refine Or.inl ⟨by rfl, ?_⟩; intro w hSw; (try dsimp only at hSw); go_simp; (try with_reducible rfl)
            · assumption
            try simp only [Act.put, sA, sB, sC]
            refine wpAnyH_take (i := 2) (oi := ?_) (v := ?_) ?_ ?_ ?_ ?_ ?_ ?_ ?_ ?_
            rotate_left 2
            · simp only [gA, gB, gC]; rfl
            · kernel_rfl
            · kernel_rfl
            · kernel_rfl
            · exact fun _ _ _ h => h
            · refine Or.inl ⟨by rfl, ?_⟩; intro w hSw; (try dsimp only at hSw); go_simp; (try with_reducible rfl)
            · assumption
            try simp only [Act.put, sA, sB, sC]
            refine wpAnyH_ready (rs := [3]) (by kernel_rfl) (by simp) ?_
            refine AllReadyH.cons (o := ?_) ?_ (fun K hK => ?_) AllReadyH.nil
            rotate_left
            · simp only [gA, gB, gC]; rfl
            go_simp
            (go_at_call 183; refine (HF.out _ (TE.out.grow hk2)).mono ?_; rintro e w3 ⟨rfl, hx3⟩; have hk2 := hk2.trans hx3)
            go_wp2_with fail
            refine hK.out _ _ ?_ (fun hHeld => ?_)
            · exact HKEEP.out _ hk2
            clear hK K
            try simp only [Act.put, sA, sB, sC]
            refine wpAnyH_take (i := 4) (oi := ?_) (v := ?_) ?_ ?_ ?_ ?_ ?_ ?_ ?_ ?_
            rotate_left 2
            · simp only [gA, gB, gC]; rfl
            · kernel_rfl
            · kernel_rfl
            · kernel_rfl
            · exact fun _ _ _ h => h
            · refine Or.inl ⟨by rfl, ?_⟩; intro w hSw; (try dsimp only at hSw); go_simp; (try with_reducible rfl)
            · assumption
            try simp only [Act.put, sA, sB, sC]
            refine wpAnyH_take (i := 5) (oi := ?_) (v := ?_) ?_ ?_ ?_ ?_ ?_ ?_ ?_ ?_
            rotate_left 2
            · simp only [gA, gB, gC]; rfl
            · kernel_rfl
            · kernel_rfl
            · kernel_rfl
            · exact fun _ _ _ h => h
            · refine Or.inl ⟨by rfl, ?_⟩; intro w hSw; (try dsimp only at hSw); go_simp; (try with_reducible rfl)
            · assumption
            try simp only [Act.put, sA, sB, sC]
            refine wpAnyH_take (i := 6) (oi := ?_) (v := ?_) ?_ ?_ ?_ ?_ ?_ ?_ ?_ ?_
            rotate_left 2
            · simp only [gA, gB, gC]; rfl
            · kernel_rfl
            · kernel_rfl
            · kernel_rfl
            · exact fun _ _ _ h => h
            · refine Or.inl ⟨by rfl, ?_⟩; intro w hSw; (try dsimp only at hSw); go_simp; (try with_reducible rfl)
            · assumption
            try simp only [Act.put, sA, sB, sC]
            refine wpAnyH_take (i := 7) (oi := ?_) (v := ?_) ?_ ?_ ?_ ?_ ?_ ?_ ?_ ?_
            rotate_left 2
            · simp only [gA, gB, gC]; rfl
            · kernel_rfl
            · kernel_rfl
            · kernel_rfl
            · exact fun _ _ _ h => h
            · refine Or.inl ⟨by rfl, ?_⟩; intro w hSw; (try dsimp only at hSw); go_simp; (try with_reducible rfl)
            · assumption
            try simp only [Act.put, sA, sB, sC]
            refine wpAnyH_take (i := 8) (oi := ?_) (v := ?_) ?_ ?_ ?_ ?_ ?_ ?_ ?_ ?_
            rotate_left 2
            · simp only [gA, gB, gC]; rfl
            · kernel_rfl
            · kernel_rfl
            · kernel_rfl
            · exact fun _ _ _ h => h
            · refine Or.inl ⟨by rfl, ?_⟩; intro w hSw; (try dsimp only at hSw); go_simp; (try with_reducible rfl)
            · assumption
            try simp only [Act.put, sA, sB, sC]
            refine wpAnyH_take (i := 9) (oi := ?_) (v := ?_) ?_ ?_ ?_ ?_ ?_ ?_ ?_ ?_
            rotate_left 2
            · simp only [gA, gB, gC]; rfl
            · kernel_rfl
            · kernel_rfl
            · kernel_rfl
            · exact fun _ _ _ h => h
            · refine Or.inl ⟨by rfl, ?_⟩; intro w hSw; (try dsimp only at hSw); go_simp; (try with_reducible rfl)
            · assumption
            try simp only [Act.put, sA, sB, sC]
            refine wpAnyH_take (i := 10) (oi := ?_) (v := ?_) ?_ ?_ ?_ ?_ ?_ ?_ ?_ ?_
            rotate_left 2
            · simp only [gA, gB, gC]; rfl
            · kernel_rfl
            · kernel_rfl
            · kernel_rfl
            · exact fun _ _ _ h => h
            · refine Or.inl ⟨by rfl, ?_⟩; intro w hSw; (try dsimp only at hSw); go_simp; (try with_reducible rfl)
            · assumption
            try simp only [Act.put, sA, sB, sC]
            refine wpAnyH_take (i := 11) (oi := ?_) (v := ?_) ?_ ?_ ?_ ?_ ?_ ?_ ?_ ?_
            rotate_left 2
            · simp only [gA, gB, gC]; rfl
            · kernel_rfl
            · kernel_rfl
            · kernel_rfl
            · exact fun _ _ _ h => h
            · refine Or.inl ⟨by rfl, ?_⟩; intro w hSw; (try dsimp only at hSw); go_simp; (try with_reducible rfl)
            · assumption
            try simp only [Act.put, sA, sB, sC]
            refine wpAnyH_take (i := 12) (oi := ?_) (v := ?_) ?_ ?_ ?_ ?_ ?_ ?_ ?_ ?_
            rotate_left 2
            · simp only [gA, gB, gC]; rfl
            · kernel_rfl
            · kernel_rfl
            · kernel_rfl
            · exact fun _ _ _ h => h
            · refine Or.inl ⟨by rfl, ?_⟩; intro w hSw; (try dsimp only at hSw); go_simp; (try with_reducible rfl)
            · assumption
            try simp only [Act.put, sA, sB, sC]
            refine wpAnyH_take (i := 13) (oi := ?_) (v := ?_) ?_ ?_ ?_ ?_ ?_ ?_ ?_ ?_
            rotate_left 2
            · simp only [gA, gB, gC]; rfl
            · kernel_rfl
            · kernel_rfl
            · kernel_rfl
            · exact fun _ _ _ h => h
            · refine Or.inl ⟨by rfl, ?_⟩; intro w hSw; (try dsimp only at hSw); go_simp; (try with_reducible rfl)
            · assumption
            try simp only [Act.put, sA, sB, sC]
            refine wpAnyH_take (i := 14) (oi := ?_) (v := ?_) ?_ ?_ ?_ ?_ ?_ ?_ ?_ ?_
            rotate_left 2
            · simp only [gA, gB, gC]; rfl
            · kernel_rfl
            · kernel_rfl
            · kernel_rfl
            · exact fun _ _ _ h => h
            · refine Or.inl ⟨by rfl, ?_⟩; intro w hSw; (try dsimp only at hSw); go_simp; (try with_reducible rfl)
            · assumption
            try simp only [Act.put, sA, sB, sC]
            refine wpAnyH_take (i := 15) (oi := ?_) (v := ?_) ?_ ?_ ?_ ?_ ?_ ?_ ?_ ?_
            rotate_left 2
            · simp only [gA, gB, gC]; rfl
            · kernel_rfl
            · kernel_rfl
            · kernel_rfl
            · exact fun _ _ _ h => h
            · refine Or.inl ⟨by rfl, ?_⟩; intro w hSw; (try dsimp only at hSw); go_simp; (try with_reducible rfl)
            · assumption
            try simp only [Act.put, sA, sB, sC]
            refine wpAnyH_ready (rs := [16]) (by kernel_rfl) (by simp) ?_
            refine AllReadyH.cons (o := ?_) ?_ (fun K hK => ?_) AllReadyH.nil
            rotate_left
            · simp only [gA, gB, gC]; rfl
            go_simp
            (go_at_call 184; refine (HN.out _ (TE.out.grow hk2)).mono ?_; rintro e w4 ⟨rfl, hx4⟩; have hk2 := hk2.trans hx4)
            go_wp2_with fail
            refine hK.out _ _ ?_ (fun hHeld => ?_)
            · exact HKEEP.out _ hk2
            clear hK K
            try simp only [Act.put, sA, sB, sC]
            refine wpAnyH_take (i := 17) (oi := ?_) (v := ?_) ?_ ?_ ?_ ?_ ?_ ?_ ?_ ?_
            rotate_left 2
            · simp only [gA, gB, gC]; rfl
            · kernel_rfl
            · kernel_rfl
            · kernel_rfl
            · exact fun _ _ _ h => h
            · refine Or.inl ⟨by rfl, ?_⟩; intro w hSw; (try dsimp only at hSw); go_simp; (try with_reducible rfl)
            · assumption
            try simp only [Act.put, sA, sB, sC]
            refine wpAnyH_take (i := 18) (oi := ?_) (v := ?_) ?_ ?_ ?_ ?_ ?_ ?_ ?_ ?_
            rotate_left 2
            · simp only [gA, gB, gC]; rfl
            · kernel_rfl
            · kernel_rfl
            · kernel_rfl
            · exact fun _ _ _ h => h
            · refine Or.inl ⟨by rfl, ?_⟩; intro w hSw; (try dsimp only at hSw); go_simp; (try with_reducible rfl)
            · assumption
            try simp only [Act.put, sA, sB, sC]
            refine wpAnyH_take (i := 19) (oi := ?_) (v := ?_) ?_ ?_ ?_ ?_ ?_ ?_ ?_ ?_
            rotate_left 2
            · simp only [gA, gB, gC]; rfl
            · kernel_rfl
            · kernel_rfl
            · kernel_rfl
            · exact fun _ _ _ h => h
            · refine Or.inl ⟨by rfl, ?_⟩; intro w hSw; (try dsimp only at hSw); go_simp; (try with_reducible rfl)
            · assumption
            try simp only [Act.put, sA, sB, sC]
            refine wpAnyH_take (i := 20) (oi := ?_) (v := ?_) ?_ ?_ ?_ ?_ ?_ ?_ ?_ ?_
            rotate_left 2
            · simp only [gA, gB, gC]; rfl
            · kernel_rfl
            · kernel_rfl
            · kernel_rfl
            · exact fun _ _ _ h => h
            · refine Or.inl ⟨by rfl, ?_⟩; intro w hSw; (try dsimp only at hSw); go_simp; (try with_reducible rfl)
            · assumption
            try simp only [Act.put, sA, sB, sC]
            refine wpAnyH_take (i := 21) (oi := ?_) (v := ?_) ?_ ?_ ?_ ?_ ?_ ?_ ?_ ?_
            rotate_left 2
            · simp only [gA, gB, gC]; rfl
            · kernel_rfl
            · kernel_rfl
            · kernel_rfl
            · exact fun _ _ _ h => h
            · refine Or.inl ⟨by rfl, ?_⟩; intro w hSw; (try dsimp only at hSw); go_simp; (try with_reducible rfl)
            · assumption
            try simp only [Act.put, sA, sB, sC]
            refine wpAnyH_take (i := 22) (oi := ?_) (v := ?_) ?_ ?_ ?_ ?_ ?_ ?_ ?_ ?_
            rotate_left 2
            · simp only [gA, gB, gC]; rfl
            · kernel_rfl
            · kernel_rfl
            · kernel_rfl
            · exact fun _ _ _ h => h
            · refine Or.inl ⟨by rfl, ?_⟩; intro w hSw; (try dsimp only at hSw); go_simp; (try with_reducible rfl)
            · assumption
            try simp only [Act.put, sA, sB, sC]
            refine wpAnyH_take (i := 23) (oi := ?_) (v := ?_) ?_ ?_ ?_ ?_ ?_ ?_ ?_ ?_
            rotate_left 2
            · simp only [gA, gB, gC]; rfl
            · kernel_rfl
            · kernel_rfl
            · kernel_rfl
            · exact fun _ _ _ h => h
            · refine Or.inl ⟨by rfl, ?_⟩; intro w hSw; (try dsimp only at hSw); go_simp; (try with_reducible rfl)
            · assumption
            try simp only [Act.put, sA, sB, sC]
            refine wpAnyH_take (i := 24) (oi := ?_) (v := ?_) ?_ ?_ ?_ ?_ ?_ ?_ ?_ ?_
            rotate_left 2
            · simp only [gA, gB, gC]; rfl
            · kernel_rfl
            · kernel_rfl
            · kernel_rfl
            · exact fun _ _ _ h => h
            · refine Or.inl ⟨by rfl, ?_⟩; intro w hSw; (try dsimp only at hSw); go_simp; (try with_reducible rfl)
            · assumption
            try simp only [Act.put, sA, sB, sC]
            have TG := Lib.hid (TE.out.grow hk2)
            have hk9 := hk2
            have hk2 := hk9.trans (Ext.alloc w4 (.cells (intCells (List.replicate nb 0)) 3))
            refine wpAnyH_ready (rs := [25]) (by kernel_rfl) (by simp) ?_
            refine AllReadyH.cons (o := ?_) ?_ (fun K hK => ?_) AllReadyH.nil
            rotate_left
            · simp only [gA, gB, gC]; rfl
            go_simp
            refine hK.out _ _ ?_ (fun hHeld => ?_)
            · exact HKEEP.out _ hk2
            clear hK K
            try simp only [Act.put, sA, sB, sC]
            refine wpAnyH_ready (rs := [26]) (by kernel_rfl) (by simp) ?_
            refine AllReadyH.cons (o := ?_) ?_ (fun K hK => ?_) AllReadyH.nil
            rotate_left
            · simp only [gA, gB, gC]; rfl
            go_simp
            (go_at_call 185; refine (HGV.out _ TG.out).mono ?_; rintro e w5 ⟨rfl, hx5⟩; have hk2 := hk2.trans hx5)
            go_wp2_with fail
            refine hK.out _ _ ?_ (fun hHeld => ?_)
            · exact HKEEP.out _ hk2
            clear hK K
            try simp only [Act.put, sA, sB, sC]
            refine wpAnyH_take (i := 27) (oi := ?_) (v := ?_) ?_ ?_ ?_ ?_ ?_ ?_ ?_ ?_
            rotate_left 2
            · simp only [gA, gB, gC]; rfl
            · kernel_rfl
            · kernel_rfl
            · kernel_rfl
            · exact fun _ _ _ h => h
            · refine Or.inl ⟨by rfl, ?_⟩; intro w hSw; (try dsimp only at hSw); go_simp; (try with_reducible rfl)
            · assumption
            try simp only [Act.put, sA, sB, sC]
            refine wpAnyH_take (i := 28) (oi := ?_) (v := ?_) ?_ ?_ ?_ ?_ ?_ ?_ ?_ ?_
            rotate_left 2
            · simp only [gA, gB, gC]; rfl
            · kernel_rfl
            · kernel_rfl
            · kernel_rfl
            · exact fun _ _ _ h => h
            · refine Or.inl ⟨by rfl, ?_⟩; intro w hSw; (try dsimp only at hSw); go_simp; (try with_reducible rfl)
            · assumption
            try simp only [Act.put, sA, sB, sC]
            refine wpAnyH_take (i := 29) (oi := ?_) (v := ?_) ?_ ?_ ?_ ?_ ?_ ?_ ?_ ?_
            rotate_left 2
            · simp only [gA, gB, gC]; rfl
            · kernel_rfl
            · kernel_rfl
            · kernel_rfl
            · exact fun _ _ _ h => h
            · refine Or.inl ⟨by rfl, ?_⟩; intro w hSw; (try dsimp only at hSw); go_simp; (try with_reducible rfl)
            · assumption
            try simp only [Act.put, sA, sB, sC]
            refine wpAnyH_take (i := 30) (oi := ?_) (v := ?_) ?_ ?_ ?_ ?_ ?_ ?_ ?_ ?_
            rotate_left 2
            · simp only [gA, gB, gC]; rfl
            · kernel_rfl
            · kernel_rfl
            · kernel_rfl
            · exact fun _ _ _ h => h
            · refine Or.inl ⟨by rfl, ?_⟩; intro w hSw; (try dsimp only at hSw); go_simp; (try with_reducible rfl)
            · assumption
            try simp only [Act.put, sA, sB, sC]
            refine wpAnyH_take (i := 31) (oi := ?_) (v := ?_) ?_ ?_ ?_ ?_ ?_ ?_ ?_ ?_
            rotate_left 2
            · simp only [gA, gB, gC]; rfl
            · kernel_rfl
            · kernel_rfl
            · kernel_rfl
            · exact fun _ _ _ h => h
            · refine Or.inl ⟨by rfl, ?_⟩; intro w hSw; (try dsimp only at hSw); go_simp; (try with_reducible rfl)
            · assumption
            try simp only [Act.put, sA, sB, sC]
            refine wpAnyH_take (i := 32) (oi := ?_) (v := undef) ?_ ?_ ?_ ?_ ?_ ?_ ?_ ?_
            rotate_left
            · simp only [gA, gB, gC]; rfl
            · kernel_rfl
            · kernel_rfl
            · kernel_rfl
            · exact fun _ _ _ h => h
            · exact Or.inr ⟨by rfl, rfl⟩
            · assumption
            try simp only [Act.put, sA, sB, sC]
            refine wpAnyH_take (i := 33) (oi := ?_) (v := undef) ?_ ?_ ?_ ?_ ?_ ?_ ?_ ?_
            rotate_left
            · simp only [gA, gB, gC]; rfl
            · kernel_rfl
            · kernel_rfl
            · kernel_rfl
            · exact fun _ _ _ h => h
            · exact Or.inr ⟨by rfl, rfl⟩
            · assumption
            try simp only [Act.put, sA, sB, sC]
            refine wpAnyH_take (i := 34) (oi := ?_) (v := undef) ?_ ?_ ?_ ?_ ?_ ?_ ?_ ?_
            rotate_left
            · simp only [gA, gB, gC]; rfl
            · kernel_rfl
            · kernel_rfl
            · kernel_rfl
            · exact fun _ _ _ h => h
            · exact Or.inr ⟨by rfl, rfl⟩
            · assumption
            try simp only [Act.put, sA, sB, sC]
            refine wpAnyH_take (i := 35) (oi := ?_) (v := ?_) ?_ ?_ ?_ ?_ ?_ ?_ ?_ ?_
            rotate_left 2
            · simp only [gA, gB, gC]; rfl
            · kernel_rfl
            · kernel_rfl
            · kernel_rfl
            · exact fun _ _ _ h => h
            · refine Or.inl ⟨by rfl, ?_⟩; intro w hSw; (try dsimp only at hSw); go_simp; (try with_reducible rfl)
            · assumption
            try simp only [Act.put, sA, sB, sC]
            refine wpAnyH_take (i := 36) (oi := ?_) (v := ?_) ?_ ?_ ?_ ?_ ?_ ?_ ?_ ?_
            rotate_left 2
            · simp only [gA, gB, gC]; rfl
            · kernel_rfl
            · kernel_rfl
            · kernel_rfl
            · exact fun _ _ _ h => h
            · refine Or.inl ⟨by rfl, ?_⟩; intro w hSw; (try dsimp only at hSw); go_simp; (try with_reducible rfl)
            · assumption
            try simp only [Act.put, sA, sB, sC]
            refine wpAnyH_done (by kernel_rfl) ?_ _
            go_wp2_with fail
            go_ret
            exact ⟨ret_bool HZ.out, (TE.out.grow hk2).all⟩
          · have HZ := Lib.hid (show decide (x1 < 0) = V by rw [HVE.out, HXX.out, decide_eq_true HRN.out]; simp)
            refine wp_region_held_drew (S := (fun w' => w'.cell? ⟨w.heap.size, 0, none⟩ = some (.slice a nb ca) ∧ w'.cell? ⟨w.heap.size, 1, none⟩ = some (.slice b nb cb) ∧ w'.cell? ⟨w.heap.size, 2, none⟩ = some (.slice c nc cc) ∧ w'.cell? ⟨w.heap.size + 1, 1, none⟩ = some (.slice xa xn xc) ∧ w'.cell? ⟨w.heap.size + 1, 3, none⟩ = some (.slice ra rn rc) ∧ w'.cell? ⟨gx, 0, none⟩ = some (.int .i64 x1) ∧ w'.cell? ⟨gx, 1, none⟩ = some (.int .i64 x2) ∧ Ext E w')) (by kernel_rfl) ?_ (fun hHeld => ?_)
            · exact HKEEP.out _ hk2
            refine wpAnyH_take (i := 0) (oi := ?_) (v := ?_) ?_ ?_ ?_ ?_ ?_ ?_ ?_ ?_
            rotate_left 2
            · simp only [gA, gB, gC]; rfl
            · kernel_rfl
            · kernel_rfl
            · kernel_rfl
            · exact fun _ _ _ h => h
            · refine Or.inl ⟨by rfl, ?_⟩; intro w hSw; (try dsimp only at hSw); go_simp; (try with_reducible rfl)
            · assumption
            try simp only [Act.put, sA, sB, sC]
            refine wpAnyH_take (i := 1) (oi := ?_) (v := ?_) ?_ ?_ ?_ ?_ ?_ ?_ ?_ ?_
            rotate_left 2
            · simp only [gA, gB, gC]; rfl
            · kernel_rfl
            · kernel_rfl
            · kernel_rfl
            · exact fun _ _ _ h => h
            · refine Or.inl ⟨by rfl, ?_⟩; intro w hSw; (try dsimp only at hSw); go_simp; (try with_reducible rfl)
            · assumption
            try simp only [Act.put, sA, sB, sC]
            refine wpAnyH_take (i := 2) (oi := ?_) (v := ?_) ?_ ?_ ?_ ?_ ?_ ?_ ?_ ?_
            rotate_left 2
            · simp only [gA, gB, gC]; rfl
            · kernel_rfl
            · kernel_rfl
            · kernel_rfl
            · exact fun _ _ _ h => h
            · refine Or.inl ⟨by rfl, ?_⟩; intro w hSw; (try dsimp only at hSw); go_simp; (try with_reducible rfl)
            · assumption
            try simp only [Act.put, sA, sB, sC]
            refine wpAnyH_ready (rs := [3]) (by kernel_rfl) (by simp) ?_
            refine AllReadyH.cons (o := ?_) ?_ (fun K hK => ?_) AllReadyH.nil
            rotate_left
            · simp only [gA, gB, gC]; rfl
            go_simp
            (go_at_call 183; refine (HF.out _ (TE.out.grow hk2)).mono ?_; rintro e w3 ⟨rfl, hx3⟩; have hk2 := hk2.trans hx3)
            go_wp2_with fail
            refine hK.out _ _ ?_ (fun hHeld => ?_)
            · exact HKEEP.out _ hk2
            clear hK K
            try simp only [Act.put, sA, sB, sC]
            refine wpAnyH_take (i := 4) (oi := ?_) (v := ?_) ?_ ?_ ?_ ?_ ?_ ?_ ?_ ?_
            rotate_left 2
            · simp only [gA, gB, gC]; rfl
            · kernel_rfl
            · kernel_rfl
            · kernel_rfl
            · exact fun _ _ _ h => h
            · refine Or.inl ⟨by rfl, ?_⟩; intro w hSw; (try dsimp only at hSw); go_simp; (try with_reducible rfl)
            · assumption
            try simp only [Act.put, sA, sB, sC]
            refine wpAnyH_take (i := 5) (oi := ?_) (v := ?_) ?_ ?_ ?_ ?_ ?_ ?_ ?_ ?_
            rotate_left 2
            · simp only [gA, gB, gC]; rfl
            · kernel_rfl
            · kernel_rfl
            · kernel_rfl
            · exact fun _ _ _ h => h
            · refine Or.inl ⟨by rfl, ?_⟩; intro w hSw; (try dsimp only at hSw); go_simp; (try with_reducible rfl)
            · assumption
            try simp only [Act.put, sA, sB, sC]
            refine wpAnyH_take (i := 6) (oi := ?_) (v := ?_) ?_ ?_ ?_ ?_ ?_ ?_ ?_ ?_
            rotate_left 2
            · simp only [gA, gB, gC]; rfl
            · kernel_rfl
            · kernel_rfl
            · kernel_rfl
            · exact fun _ _ _ h => h
            · refine Or.inl ⟨by rfl, ?_⟩; intro w hSw; (try dsimp only at hSw); go_simp; (try with_reducible rfl)
            · assumption
            try simp only [Act.put, sA, sB, sC]
            refine wpAnyH_take (i := 7) (oi := ?_) (v := ?_) ?_ ?_ ?_ ?_ ?_ ?_ ?_ ?_
            rotate_left 2
            · simp only [gA, gB, gC]; rfl
            · kernel_rfl
            · kernel_rfl
            · kernel_rfl
            · exact fun _ _ _ h => h
            · refine Or.inl ⟨by rfl, ?_⟩; intro w hSw; (try dsimp only at hSw); go_simp; (try with_reducible rfl)
            · assumption
            try simp only [Act.put, sA, sB, sC]
            refine wpAnyH_take (i := 8) (oi := ?_) (v := ?_) ?_ ?_ ?_ ?_ ?_ ?_ ?_ ?_
            rotate_left 2
            · simp only [gA, gB, gC]; rfl
            · kernel_rfl
            · kernel_rfl
            · kernel_rfl
            · exact fun _ _ _ h => h
            · refine Or.inl ⟨by rfl, ?_⟩; intro w hSw; (try dsimp only at hSw); go_simp; (try with_reducible rfl)
            · assumption
            try simp only [Act.put, sA, sB, sC]
            refine wpAnyH_take (i := 9) (oi := ?_) (v := ?_) ?_ ?_ ?_ ?_ ?_ ?_ ?_ ?_
            rotate_left 2
            · simp only [gA, gB, gC]; rfl
            · kernel_rfl
            · kernel_rfl
            · kernel_rfl
            · exact fun _ _ _ h => h
            · refine Or.inl ⟨by rfl, ?_⟩; intro w hSw; (try dsimp only at hSw); go_simp; (try with_reducible rfl)
            · assumption
            try simp only [Act.put, sA, sB, sC]
            refine wpAnyH_take (i := 10) (oi := ?_) (v := ?_) ?_ ?_ ?_ ?_ ?_ ?_ ?_ ?_
            rotate_left 2
            · simp only [gA, gB, gC]; rfl
            · kernel_rfl
            · kernel_rfl
            · kernel_rfl
            · exact fun _ _ _ h => h
            · refine Or.inl ⟨by rfl, ?_⟩; intro w hSw; (try dsimp only at hSw); go_simp; (try with_reducible rfl)
            · assumption
            try simp only [Act.put, sA, sB, sC]
            refine wpAnyH_take (i := 11) (oi := ?_) (v := ?_) ?_ ?_ ?_ ?_ ?_ ?_ ?_ ?_
            rotate_left 2
            · simp only [gA, gB, gC]; rfl
            · kernel_rfl
            · kernel_rfl
            · kernel_rfl
            · exact fun _ _ _ h => h
            · refine Or.inl ⟨by rfl, ?_⟩; intro w hSw; (try dsimp only at hSw); go_simp; (try with_reducible rfl)
            · assumption
            try simp only [Act.put, sA, sB, sC]
            refine wpAnyH_take (i := 12) (oi := ?_) (v := ?_) ?_ ?_ ?_ ?_ ?_ ?_ ?_ ?_
            rotate_left 2
            · simp only [gA, gB, gC]; rfl
            · kernel_rfl
            · kernel_rfl
            · kernel_rfl
            · exact fun _ _ _ h => h
            · refine Or.inl ⟨by rfl, ?_⟩; intro w hSw; (try dsimp only at hSw); go_simp; (try with_reducible rfl)
            · assumption
            try simp only [Act.put, sA, sB, sC]
            refine wpAnyH_take (i := 13) (oi := ?_) (v := ?_) ?_ ?_ ?_ ?_ ?_ ?_ ?_ ?_
            rotate_left 2
            · simp only [gA, gB, gC]; rfl
            · kernel_rfl
            · kernel_rfl
            · kernel_rfl
            · exact fun _ _ _ h => h
            · refine Or.inl ⟨by rfl, ?_⟩; intro w hSw; (try dsimp only at hSw); go_simp; (try with_reducible rfl)
            · assumption
            try simp only [Act.put, sA, sB, sC]
            refine wpAnyH_take (i := 14) (oi := ?_) (v := ?_) ?_ ?_ ?_ ?_ ?_ ?_ ?_ ?_
            rotate_left 2
            · simp only [gA, gB, gC]; rfl
            · kernel_rfl
            · kernel_rfl
            · kernel_rfl
            · exact fun _ _ _ h => h
            · refine Or.inl ⟨by rfl, ?_⟩; intro w hSw; (try dsimp only at hSw); go_simp; (try with_reducible rfl)
            · assumption
            try simp only [Act.put, sA, sB, sC]
            refine wpAnyH_take (i := 15) (oi := ?_) (v := ?_) ?_ ?_ ?_ ?_ ?_ ?_ ?_ ?_
            rotate_left 2
            · simp only [gA, gB, gC]; rfl
            · kernel_rfl
            · kernel_rfl
            · kernel_rfl
            · exact fun _ _ _ h => h
            · refine Or.inl ⟨by rfl, ?_⟩; intro w hSw; (try dsimp only at hSw); go_simp; (try with_reducible rfl)
            · assumption
            try simp only [Act.put, sA, sB, sC]
            refine wpAnyH_ready (rs := [16]) (by kernel_rfl) (by simp) ?_
            refine AllReadyH.cons (o := ?_) ?_ (fun K hK => ?_) AllReadyH.nil
            rotate_left
            · simp only [gA, gB, gC]; rfl
            go_simp
            (go_at_call 184; refine (HN.out _ (TE.out.grow hk2)).mono ?_; rintro e w4 ⟨rfl, hx4⟩; have hk2 := hk2.trans hx4)
            go_wp2_with fail
            refine hK.out _ _ ?_ (fun hHeld => ?_)
            · exact HKEEP.out _ hk2
            clear hK K
            try simp only [Act.put, sA, sB, sC]
            refine wpAnyH_take (i := 17) (oi := ?_) (v := ?_) ?_ ?_ ?_ ?_ ?_ ?_ ?_ ?_
            rotate_left 2
            · simp only [gA, gB, gC]; rfl
            · kernel_rfl
            · kernel_rfl
            · kernel_rfl
            · exact fun _ _ _ h => h
            · refine Or.inl ⟨by rfl, ?_⟩; intro w hSw; (try dsimp only at hSw); go_simp; (try with_reducible rfl)
            · assumption
            try simp only [Act.put, sA, sB, sC]
            refine wpAnyH_take (i := 18) (oi := ?_) (v := ?_) ?_ ?_ ?_ ?_ ?_ ?_ ?_ ?_
            rotate_left 2
            · simp only [gA, gB, gC]; rfl
            · kernel_rfl
            · kernel_rfl
            · kernel_rfl
            · exact fun _ _ _ h => h
            · refine Or.inl ⟨by rfl, ?_⟩; intro w hSw; (try dsimp only at hSw); go_simp; (try with_reducible rfl)
            · assumption
            try simp only [Act.put, sA, sB, sC]
            refine wpAnyH_take (i := 19) (oi := ?_) (v := ?_) ?_ ?_ ?_ ?_ ?_ ?_ ?_ ?_
            rotate_left 2
            · simp only [gA, gB, gC]; rfl
            · kernel_rfl
            · kernel_rfl
            · kernel_rfl
            · exact fun _ _ _ h => h
            · refine Or.inl ⟨by rfl, ?_⟩; intro w hSw; (try dsimp only at hSw); go_simp; (try with_reducible rfl)
            · assumption
            try simp only [Act.put, sA, sB, sC]
            refine wpAnyH_take (i := 20) (oi := ?_) (v := ?_) ?_ ?_ ?_ ?_ ?_ ?_ ?_ ?_
            rotate_left 2
            · simp only [gA, gB, gC]; rfl
            · kernel_rfl
            · kernel_rfl
            · kernel_rfl
            · exact fun _ _ _ h => h
            · refine Or.inl ⟨by rfl, ?_⟩; intro w hSw; (try dsimp only at hSw); go_simp; (try with_reducible rfl)
            · assumption
            try simp only [Act.put, sA, sB, sC]
            refine wpAnyH_take (i := 21) (oi := ?_) (v := ?_) ?_ ?_ ?_ ?_ ?_ ?_ ?_ ?_
            rotate_left 2
            · simp only [gA, gB, gC]; rfl
            · kernel_rfl
            · kernel_rfl
            · kernel_rfl
            · exact fun _ _ _ h => h
            · refine Or.inl ⟨by rfl, ?_⟩; intro w hSw; (try dsimp only at hSw); go_simp; (try with_reducible rfl)
            · assumption
            try simp only [Act.put, sA, sB, sC]
            refine wpAnyH_take (i := 22) (oi := ?_) (v := ?_) ?_ ?_ ?_ ?_ ?_ ?_ ?_ ?_
            rotate_left 2
            · simp only [gA, gB, gC]; rfl
            · kernel_rfl
            · kernel_rfl
            · kernel_rfl
            · exact fun _ _ _ h => h
            · refine Or.inl ⟨by rfl, ?_⟩; intro w hSw; (try dsimp only at hSw); go_simp; (try with_reducible rfl)
            · assumption
            try simp only [Act.put, sA, sB, sC]
            refine wpAnyH_take (i := 23) (oi := ?_) (v := ?_) ?_ ?_ ?_ ?_ ?_ ?_ ?_ ?_
            rotate_left 2
            · simp only [gA, gB, gC]; rfl
            · kernel_rfl
            · kernel_rfl
            · kernel_rfl
            · exact fun _ _ _ h => h
            · refine Or.inl ⟨by rfl, ?_⟩; intro w hSw; (try dsimp only at hSw); go_simp; (try with_reducible rfl)
            · assumption
            try simp only [Act.put, sA, sB, sC]
            refine wpAnyH_take (i := 24) (oi := ?_) (v := ?_) ?_ ?_ ?_ ?_ ?_ ?_ ?_ ?_
            rotate_left 2
            · simp only [gA, gB, gC]; rfl
            · kernel_rfl
            · kernel_rfl
            · kernel_rfl
            · exact fun _ _ _ h => h
            · refine Or.inl ⟨by rfl, ?_⟩; intro w hSw; (try dsimp only at hSw); go_simp; (try with_reducible rfl)
            · assumption
            try simp only [Act.put, sA, sB, sC]
            have TG := Lib.hid (TE.out.grow hk2)
            have hk9 := hk2
            have hk2 := hk9.trans (Ext.alloc w4 (.cells (intCells (List.replicate nb 0)) 3))
            refine wpAnyH_ready (rs := [25]) (by kernel_rfl) (by simp) ?_
            refine AllReadyH.cons (o := ?_) ?_ (fun K hK => ?_) AllReadyH.nil
            rotate_left
            · simp only [gA, gB, gC]; rfl
            go_simp
            refine hK.out _ _ ?_ (fun hHeld => ?_)
            · exact HKEEP.out _ hk2
            clear hK K
            try simp only [Act.put, sA, sB, sC]
            refine wpAnyH_ready (rs := [26]) (by kernel_rfl) (by simp) ?_
            refine AllReadyH.cons (o := ?_) ?_ (fun K hK => ?_) AllReadyH.nil
            rotate_left
            · simp only [gA, gB, gC]; rfl
            go_simp
            (go_at_call 185; refine (HGV.out _ TG.out).mono ?_; rintro e w5 ⟨rfl, hx5⟩; have hk2 := hk2.trans hx5)
            go_wp2_with fail
            refine hK.out _ _ ?_ (fun hHeld => ?_)
            · exact HKEEP.out _ hk2
            clear hK K
            try simp only [Act.put, sA, sB, sC]
            refine wpAnyH_take (i := 27) (oi := ?_) (v := ?_) ?_ ?_ ?_ ?_ ?_ ?_ ?_ ?_
            rotate_left 2
            · simp only [gA, gB, gC]; rfl
            · kernel_rfl
            · kernel_rfl
            · kernel_rfl
            · exact fun _ _ _ h => h
            · refine Or.inl ⟨by rfl, ?_⟩; intro w hSw; (try dsimp only at hSw); go_simp; (try with_reducible rfl)
            · assumption
            try simp only [Act.put, sA, sB, sC]
            refine wpAnyH_take (i := 28) (oi := ?_) (v := ?_) ?_ ?_ ?_ ?_ ?_ ?_ ?_ ?_
            rotate_left 2
            · simp only [gA, gB, gC]; rfl
            · kernel_rfl
            · kernel_rfl
            · kernel_rfl
            · exact fun _ _ _ h => h
            · refine Or.inl ⟨by rfl, ?_⟩; intro w hSw; (try dsimp only at hSw); go_simp; (try with_reducible rfl)
            · assumption
            try simp only [Act.put, sA, sB, sC]
            refine wpAnyH_take (i := 29) (oi := ?_) (v := ?_) ?_ ?_ ?_ ?_ ?_ ?_ ?_ ?_
            rotate_left 2
            · simp only [gA, gB, gC]; rfl
            · kernel_rfl
            · kernel_rfl
            · kernel_rfl
            · exact fun _ _ _ h => h
            · refine Or.inl ⟨by rfl, ?_⟩; intro w hSw; (try dsimp only at hSw); go_simp; (try with_reducible rfl)
            · assumption
            try simp only [Act.put, sA, sB, sC]
            refine wpAnyH_take (i := 30) (oi := ?_) (v := ?_) ?_ ?_ ?_ ?_ ?_ ?_ ?_ ?_
            rotate_left 2
            · simp only [gA, gB, gC]; rfl
            · kernel_rfl
            · kernel_rfl
            · kernel_rfl
            · exact fun _ _ _ h => h
            · refine Or.inl ⟨by rfl, ?_⟩; intro w hSw; (try dsimp only at hSw); go_simp; (try with_reducible rfl)
            · assumption
            try simp only [Act.put, sA, sB, sC]
            refine wpAnyH_take (i := 31) (oi := ?_) (v := ?_) ?_ ?_ ?_ ?_ ?_ ?_ ?_ ?_
            rotate_left 2
            · simp only [gA, gB, gC]; rfl
            · kernel_rfl
            · kernel_rfl
            · kernel_rfl
            · exact fun _ _ _ h => h
            · refine Or.inl ⟨by rfl, ?_⟩; intro w hSw; (try dsimp only at hSw); go_simp; (try with_reducible rfl)
            · assumption
            try simp only [Act.put, sA, sB, sC]
            refine wpAnyH_take (i := 32) (oi := ?_) (v := ?_) ?_ ?_ ?_ ?_ ?_ ?_ ?_ ?_
            rotate_left 2
            · simp only [gA, gB, gC]; rfl
            · kernel_rfl
            · kernel_rfl
            · kernel_rfl
            · exact fun _ _ _ h => h
            · refine Or.inl ⟨by rfl, ?_⟩; intro w hSw; (try dsimp only at hSw); go_simp; (try with_reducible rfl)
            · assumption
            try simp only [Act.put, sA, sB, sC]
            refine wpAnyH_take (i := 33) (oi := ?_) (v := ?_) ?_ ?_ ?_ ?_ ?_ ?_ ?_ ?_
            rotate_left 2
            · simp only [gA, gB, gC]; rfl
            · kernel_rfl
            · kernel_rfl
            · kernel_rfl
            · exact fun _ _ _ h => h
            · refine Or.inl ⟨by rfl, ?_⟩; intro w hSw; (try dsimp only at hSw); go_simp; (try with_reducible rfl)
            · assumption
            try simp only [Act.put, sA, sB, sC]
            refine wpAnyH_take (i := 34) (oi := ?_) (v := ?_) ?_ ?_ ?_ ?_ ?_ ?_ ?_ ?_
            rotate_left 2
            · simp only [gA, gB, gC]; rfl
            · kernel_rfl
            · kernel_rfl
            · kernel_rfl
            · exact fun _ _ _ h => h
            · refine Or.inl ⟨by rfl, ?_⟩; intro w hSw; (try dsimp only at hSw); go_simp; (try with_reducible rfl)
            · assumption
            try simp only [Act.put, sA, sB, sC]
            refine wpAnyH_take (i := 35) (oi := ?_) (v := ?_) ?_ ?_ ?_ ?_ ?_ ?_ ?_ ?_
            rotate_left 2
            · simp only [gA, gB, gC]; rfl
            · kernel_rfl
            · kernel_rfl
            · kernel_rfl
            · exact fun _ _ _ h => h
            · refine Or.inl ⟨by rfl, ?_⟩; intro w hSw; (try dsimp only at hSw); go_simp; (try with_reducible rfl)
            · assumption
            try simp only [Act.put, sA, sB, sC]
            refine wpAnyH_take (i := 36) (oi := ?_) (v := ?_) ?_ ?_ ?_ ?_ ?_ ?_ ?_ ?_
            rotate_left 2
            · simp only [gA, gB, gC]; rfl
            · kernel_rfl
            · kernel_rfl
            · kernel_rfl
            · exact fun _ _ _ h => h
            · refine Or.inl ⟨by rfl, ?_⟩; intro w hSw; (try dsimp only at hSw); go_simp; (try with_reducible rfl)
            · assumption
            try simp only [Act.put, sA, sB, sC]
            refine wpAnyH_done (by kernel_rfl) ?_ _
            go_wp2_with fail
            go_ret
            exact ⟨ret_bool HZ.out, (TE.out.grow hk2).all⟩
    · have hne : ((rn : Int) == (nc : Int)) = false := by simp; omega
      have HZ := Lib.hid (show false = V by rw [HVE.out, decide_eq_false hrn]; rfl)
      clear hrn
      refine wp_region_held_drew (S := (fun w' => w'.cell? ⟨w.heap.size, 0, none⟩ = some (.slice a nb ca) ∧ w'.cell? ⟨w.heap.size, 1, none⟩ = some (.slice b nb cb) ∧ w'.cell? ⟨w.heap.size, 2, none⟩ = some (.slice c nc cc) ∧ w'.cell? ⟨w.heap.size + 1, 1, none⟩ = some (.slice xa xn xc) ∧ w'.cell? ⟨w.heap.size + 1, 3, none⟩ = some (.slice ra rn rc) ∧ w'.cell? ⟨gx, 0, none⟩ = some (.int .i64 x1) ∧ w'.cell? ⟨gx, 1, none⟩ = some (.int .i64 x2) ∧ Ext E w')) (by kernel_rfl) ?_ (fun hHeld => ?_)
      · exact HKEEP.out _ hk2
      refine wpAnyH_take (i := 0) (oi := ?_) (v := ?_) ?_ ?_ ?_ ?_ ?_ ?_ ?_ ?_
      rotate_left 2
      · simp only [gA, gB, gC]; rfl
      · kernel_rfl
      · kernel_rfl
      · kernel_rfl
      · exact fun _ _ _ h => h
      · refine Or.inl ⟨by rfl, ?_⟩; intro w hSw; (try dsimp only at hSw); go_simp; (try with_reducible rfl)
      · assumption
      try simp only [Act.put, sA, sB, sC]
      refine wpAnyH_take (i := 1) (oi := ?_) (v := ?_) ?_ ?_ ?_ ?_ ?_ ?_ ?_ ?_
      rotate_left 2
      · simp only [gA, gB, gC]; rfl
      · kernel_rfl
      · kernel_rfl
      · kernel_rfl
      · exact fun _ _ _ h => h
      · refine Or.inl ⟨by rfl, ?_⟩; intro w hSw; (try dsimp only at hSw); go_simp; (try with_reducible rfl)
      · assumption
      try simp only [Act.put, sA, sB, sC]
      refine wpAnyH_take (i := 2) (oi := ?_) (v := ?_) ?_ ?_ ?_ ?_ ?_ ?_ ?_ ?_
      rotate_left 2
      · simp only [gA, gB, gC]; rfl
      · kernel_rfl
      · kernel_rfl
      · kernel_rfl
      · exact fun _ _ _ h => h
      · refine Or.inl ⟨by rfl, ?_⟩; intro w hSw; (try dsimp only at hSw); go_simp; (try with_reducible rfl)
      · assumption
      try simp only [Act.put, sA, sB, sC]
      refine wpAnyH_ready (rs := [3]) (by kernel_rfl) (by simp) ?_
      refine AllReadyH.cons (o := ?_) ?_ (fun K hK => ?_) AllReadyH.nil
      rotate_left
      · simp only [gA, gB, gC]; rfl
      go_simp
      (go_at_call 183; refine (HF.out _ (TE.out.grow hk2)).mono ?_; rintro e w3 ⟨rfl, hx3⟩; have hk2 := hk2.trans hx3)
      go_wp2_with fail
      refine hK.out _ _ ?_ (fun hHeld => ?_)
      · exact HKEEP.out _ hk2
      clear hK K
      try simp only [Act.put, sA, sB, sC]
      refine wpAnyH_take (i := 4) (oi := ?_) (v := ?_) ?_ ?_ ?_ ?_ ?_ ?_ ?_ ?_
      rotate_left 2
      · simp only [gA, gB, gC]; rfl
      · kernel_rfl
      · kernel_rfl
      · kernel_rfl
      · exact fun _ _ _ h => h
      · refine Or.inl ⟨by rfl, ?_⟩; intro w hSw; (try dsimp only at hSw); go_simp; (try with_reducible rfl)
      · assumption
      try simp only [Act.put, sA, sB, sC]
      refine wpAnyH_take (i := 5) (oi := ?_) (v := ?_) ?_ ?_ ?_ ?_ ?_ ?_ ?_ ?_
      rotate_left 2
      · simp only [gA, gB, gC]; rfl
      · kernel_rfl
      · kernel_rfl
      · kernel_rfl
      · exact fun _ _ _ h => h
      · refine Or.inl ⟨by rfl, ?_⟩; intro w hSw; (try dsimp only at hSw); go_simp; (try with_reducible rfl)
      · assumption
      try simp only [Act.put, sA, sB, sC]
      refine wpAnyH_take (i := 6) (oi := ?_) (v := ?_) ?_ ?_ ?_ ?_ ?_ ?_ ?_ ?_
      rotate_left 2
      · simp only [gA, gB, gC]; rfl
      · kernel_rfl
      · kernel_rfl
      · kernel_rfl
      · exact fun _ _ _ h => h
      · refine Or.inl ⟨by rfl, ?_⟩; intro w hSw; (try dsimp only at hSw); go_simp; (try with_reducible rfl)
      · assumption
      try simp only [Act.put, sA, sB, sC]
      refine wpAnyH_take (i := 7) (oi := ?_) (v := ?_) ?_ ?_ ?_ ?_ ?_ ?_ ?_ ?_
      rotate_left 2
      · simp only [gA, gB, gC]; rfl
      · kernel_rfl
      · kernel_rfl
      · kernel_rfl
      · exact fun _ _ _ h => h
      · refine Or.inl ⟨by rfl, ?_⟩; intro w hSw; (try dsimp only at hSw); go_simp; (try with_reducible rfl)
      · assumption
      try simp only [Act.put, sA, sB, sC]
      refine wpAnyH_take (i := 8) (oi := ?_) (v := ?_) ?_ ?_ ?_ ?_ ?_ ?_ ?_ ?_
      rotate_left 2
      · simp only [gA, gB, gC]; rfl
      · kernel_rfl
      · kernel_rfl
      · kernel_rfl
      · exact fun _ _ _ h => h
      · refine Or.inl ⟨by rfl, ?_⟩; intro w hSw; (try dsimp only at hSw); go_simp; (try with_reducible rfl)
      · assumption
      try simp only [Act.put, sA, sB, sC]
      refine wpAnyH_take (i := 9) (oi := ?_) (v := ?_) ?_ ?_ ?_ ?_ ?_ ?_ ?_ ?_
      rotate_left 2
      · simp only [gA, gB, gC]; rfl
      · kernel_rfl
      · kernel_rfl
      · kernel_rfl
      · exact fun _ _ _ h => h
      · refine Or.inl ⟨by rfl, ?_⟩; intro w hSw; (try dsimp only at hSw); go_simp; (try with_reducible rfl)
      · assumption
      try simp only [Act.put, sA, sB, sC]
      refine wpAnyH_take (i := 10) (oi := ?_) (v := ?_) ?_ ?_ ?_ ?_ ?_ ?_ ?_ ?_
      rotate_left 2
      · simp only [gA, gB, gC]; rfl
      · kernel_rfl
      · kernel_rfl
      · kernel_rfl
      · exact fun _ _ _ h => h
      · refine Or.inl ⟨by rfl, ?_⟩; intro w hSw; (try dsimp only at hSw); go_simp; (try with_reducible rfl)
      · assumption
      try simp only [Act.put, sA, sB, sC]
      refine wpAnyH_take (i := 11) (oi := ?_) (v := ?_) ?_ ?_ ?_ ?_ ?_ ?_ ?_ ?_
      rotate_left 2
      · simp only [gA, gB, gC]; rfl
      · kernel_rfl
      · kernel_rfl
      · kernel_rfl
      · exact fun _ _ _ h => h
      · refine Or.inl ⟨by rfl, ?_⟩; intro w hSw; (try dsimp only at hSw); go_simp; (try with_reducible rfl)
      · assumption
      try simp only [Act.put, sA, sB, sC]
      refine wpAnyH_take (i := 12) (oi := ?_) (v := ?_) ?_ ?_ ?_ ?_ ?_ ?_ ?_ ?_
      rotate_left 2
      · simp only [gA, gB, gC]; rfl
      · kernel_rfl
      · kernel_rfl
      · kernel_rfl
      · exact fun _ _ _ h => h
      · refine Or.inl ⟨by rfl, ?_⟩; intro w hSw; (try dsimp only at hSw); go_simp; (try with_reducible rfl)
      · assumption
      try simp only [Act.put, sA, sB, sC]
      refine wpAnyH_take (i := 13) (oi := ?_) (v := ?_) ?_ ?_ ?_ ?_ ?_ ?_ ?_ ?_
      rotate_left 2
      · simp only [gA, gB, gC]; rfl
      · kernel_rfl
      · kernel_rfl
      · kernel_rfl
      · exact fun _ _ _ h => h
      · refine Or.inl ⟨by rfl, ?_⟩; intro w hSw; (try dsimp only at hSw); go_simp; (try with_reducible rfl)
      · assumption
      try simp only [Act.put, sA, sB, sC]
      refine wpAnyH_take (i := 14) (oi := ?_) (v := undef) ?_ ?_ ?_ ?_ ?_ ?_ ?_ ?_
      rotate_left
      · simp only [gA, gB, gC]; rfl
      · kernel_rfl
      · kernel_rfl
      · kernel_rfl
      · exact fun _ _ _ h => h
      · exact Or.inr ⟨by rfl, rfl⟩
      · assumption
      try simp only [Act.put, sA, sB, sC]
      refine wpAnyH_take (i := 15) (oi := ?_) (v := undef) ?_ ?_ ?_ ?_ ?_ ?_ ?_ ?_
      rotate_left
      · simp only [gA, gB, gC]; rfl
      · kernel_rfl
      · kernel_rfl
      · kernel_rfl
      · exact fun _ _ _ h => h
      · exact Or.inr ⟨by rfl, rfl⟩
      · assumption
      try simp only [Act.put, sA, sB, sC]
      refine wpAnyH_take (i := 16) (oi := ?_) (v := undef) ?_ ?_ ?_ ?_ ?_ ?_ ?_ ?_
      rotate_left
      · simp only [gA, gB, gC]; rfl
      · kernel_rfl
      · kernel_rfl
      · kernel_rfl
      · exact fun _ _ _ h => h
      · exact Or.inr ⟨by rfl, rfl⟩
      · assumption
      try simp only [Act.put, sA, sB, sC]
      refine wpAnyH_take (i := 17) (oi := ?_) (v := ?_) ?_ ?_ ?_ ?_ ?_ ?_ ?_ ?_
      rotate_left 2
      · simp only [gA, gB, gC]; rfl
      · kernel_rfl
      · kernel_rfl
      · kernel_rfl
      · exact fun _ _ _ h => h
      · refine Or.inl ⟨by rfl, ?_⟩; intro w hSw; (try dsimp only at hSw); go_simp; (try with_reducible rfl)
      · assumption
      try simp only [Act.put, sA, sB, sC]
      refine wpAnyH_take (i := 18) (oi := ?_) (v := ?_) ?_ ?_ ?_ ?_ ?_ ?_ ?_ ?_
      rotate_left 2
      · simp only [gA, gB, gC]; rfl
      · kernel_rfl
      · kernel_rfl
      · kernel_rfl
      · exact fun _ _ _ h => h
      · refine Or.inl ⟨by rfl, ?_⟩; intro w hSw; (try dsimp only at hSw); go_simp; (try with_reducible rfl)
      · assumption
      try simp only [Act.put, sA, sB, sC]
      refine wpAnyH_take (i := 19) (oi := ?_) (v := undef) ?_ ?_ ?_ ?_ ?_ ?_ ?_ ?_
      rotate_left
      · simp only [gA, gB, gC]; rfl
      · kernel_rfl
      · kernel_rfl
      · kernel_rfl
      · exact fun _ _ _ h => h
      · exact Or.inr ⟨by rfl, rfl⟩
      · assumption
      try simp only [Act.put, sA, sB, sC]
      refine wpAnyH_take (i := 20) (oi := ?_) (v := undef) ?_ ?_ ?_ ?_ ?_ ?_ ?_ ?_
      rotate_left
      · simp only [gA, gB, gC]; rfl
      · kernel_rfl
      · kernel_rfl
      · kernel_rfl
      · exact fun _ _ _ h => h
      · exact Or.inr ⟨by rfl, rfl⟩
      · assumption
      try simp only [Act.put, sA, sB, sC]
      refine wpAnyH_take (i := 21) (oi := ?_) (v := undef) ?_ ?_ ?_ ?_ ?_ ?_ ?_ ?_
      rotate_left
      · simp only [gA, gB, gC]; rfl
      · kernel_rfl
      · kernel_rfl
      · kernel_rfl
      · exact fun _ _ _ h => h
      · exact Or.inr ⟨by rfl, rfl⟩
      · assumption
      try simp only [Act.put, sA, sB, sC]
      refine wpAnyH_take (i := 22) (oi := ?_) (v := undef) ?_ ?_ ?_ ?_ ?_ ?_ ?_ ?_
      rotate_left
      · simp only [gA, gB, gC]; rfl
      · kernel_rfl
      · kernel_rfl
      · kernel_rfl
      · exact fun _ _ _ h => h
      · exact Or.inr ⟨by rfl, rfl⟩
      · assumption
      try simp only [Act.put, sA, sB, sC]
      refine wpAnyH_take (i := 23) (oi := ?_) (v := undef) ?_ ?_ ?_ ?_ ?_ ?_ ?_ ?_
      rotate_left
      · simp only [gA, gB, gC]; rfl
      · kernel_rfl
      · kernel_rfl
      · kernel_rfl
      · exact fun _ _ _ h => h
      · exact Or.inr ⟨by rfl, rfl⟩
      · assumption
      try simp only [Act.put, sA, sB, sC]
      refine wpAnyH_take (i := 24) (oi := ?_) (v := undef) ?_ ?_ ?_ ?_ ?_ ?_ ?_ ?_
      rotate_left
      · simp only [gA, gB, gC]; rfl
      · kernel_rfl
      · kernel_rfl
      · kernel_rfl
      · exact fun _ _ _ h => h
      · exact Or.inr ⟨by rfl, rfl⟩
      · assumption
      try simp only [Act.put, sA, sB, sC]
      refine wpAnyH_take (i := 25) (oi := ?_) (v := undef) ?_ ?_ ?_ ?_ ?_ ?_ ?_ ?_
      rotate_left
      · simp only [gA, gB, gC]; rfl
      · kernel_rfl
      · kernel_rfl
      · kernel_rfl
      · exact fun _ _ _ h => h
      · exact Or.inr ⟨by rfl, rfl⟩
      · assumption
      try simp only [Act.put, sA, sB, sC]
      refine wpAnyH_take (i := 26) (oi := ?_) (v := undef) ?_ ?_ ?_ ?_ ?_ ?_ ?_ ?_
      rotate_left
      · simp only [gA, gB, gC]; rfl
      · kernel_rfl
      · kernel_rfl
      · kernel_rfl
      · exact fun _ _ _ h => h
      · exact Or.inr ⟨by rfl, rfl⟩
      · assumption
      try simp only [Act.put, sA, sB, sC]
      refine wpAnyH_take (i := 27) (oi := ?_) (v := ?_) ?_ ?_ ?_ ?_ ?_ ?_ ?_ ?_
      rotate_left 2
      · simp only [gA, gB, gC]; rfl
      · kernel_rfl
      · kernel_rfl
      · kernel_rfl
      · exact fun _ _ _ h => h
      · refine Or.inl ⟨by rfl, ?_⟩; intro w hSw; (try dsimp only at hSw); go_simp; (try with_reducible rfl)
      · assumption
      try simp only [Act.put, sA, sB, sC]
      refine wpAnyH_take (i := 28) (oi := ?_) (v := ?_) ?_ ?_ ?_ ?_ ?_ ?_ ?_ ?_
      rotate_left 2
      · simp only [gA, gB, gC]; rfl
      · kernel_rfl
      · kernel_rfl
      · kernel_rfl
      · exact fun _ _ _ h => h
      · refine Or.inl ⟨by rfl, ?_⟩; intro w hSw; (try dsimp only at hSw); go_simp; (try with_reducible rfl)
      · assumption
      try simp only [Act.put, sA, sB, sC]
      refine wpAnyH_take (i := 29) (oi := ?_) (v := undef) ?_ ?_ ?_ ?_ ?_ ?_ ?_ ?_
      rotate_left
      · simp only [gA, gB, gC]; rfl
      · kernel_rfl
      · kernel_rfl
      · kernel_rfl
      · exact fun _ _ _ h => h
      · exact Or.inr ⟨by rfl, rfl⟩
      · assumption
      try simp only [Act.put, sA, sB, sC]
      refine wpAnyH_take (i := 30) (oi := ?_) (v := ?_) ?_ ?_ ?_ ?_ ?_ ?_ ?_ ?_
      rotate_left 2
      · simp only [gA, gB, gC]; rfl
      · kernel_rfl
      · kernel_rfl
      · kernel_rfl
      · exact fun _ _ _ h => h
      · refine Or.inl ⟨by rfl, ?_⟩; intro w hSw; (try dsimp only at hSw); go_simp; (try with_reducible rfl)
      · assumption
      try simp only [Act.put, sA, sB, sC]
      refine wpAnyH_take (i := 31) (oi := ?_) (v := ?_) ?_ ?_ ?_ ?_ ?_ ?_ ?_ ?_
      rotate_left 2
      · simp only [gA, gB, gC]; rfl
      · kernel_rfl
      · kernel_rfl
      · kernel_rfl
      · exact fun _ _ _ h => h
      · refine Or.inl ⟨by rfl, ?_⟩; intro w hSw; (try dsimp only at hSw); go_simp; (try with_reducible rfl)
      · assumption
      try simp only [Act.put, sA, sB, sC]
      refine wpAnyH_take (i := 32) (oi := ?_) (v := undef) ?_ ?_ ?_ ?_ ?_ ?_ ?_ ?_
      rotate_left
      · simp only [gA, gB, gC]; rfl
      · kernel_rfl
      · kernel_rfl
      · kernel_rfl
      · exact fun _ _ _ h => h
      · exact Or.inr ⟨by rfl, rfl⟩
      · assumption
      try simp only [Act.put, sA, sB, sC]
      refine wpAnyH_take (i := 33) (oi := ?_) (v := undef) ?_ ?_ ?_ ?_ ?_ ?_ ?_ ?_
      rotate_left
      · simp only [gA, gB, gC]; rfl
      · kernel_rfl
      · kernel_rfl
      · kernel_rfl
      · exact fun _ _ _ h => h
      · exact Or.inr ⟨by rfl, rfl⟩
      · assumption
      try simp only [Act.put, sA, sB, sC]
      refine wpAnyH_take (i := 34) (oi := ?_) (v := undef) ?_ ?_ ?_ ?_ ?_ ?_ ?_ ?_
      rotate_left
      · simp only [gA, gB, gC]; rfl
      · kernel_rfl
      · kernel_rfl
      · kernel_rfl
      · exact fun _ _ _ h => h
      · exact Or.inr ⟨by rfl, rfl⟩
      · assumption
      try simp only [Act.put, sA, sB, sC]
      refine wpAnyH_take (i := 35) (oi := ?_) (v := ?_) ?_ ?_ ?_ ?_ ?_ ?_ ?_ ?_
      rotate_left 2
      · simp only [gA, gB, gC]; rfl
      · kernel_rfl
      · kernel_rfl
      · kernel_rfl
      · exact fun _ _ _ h => h
      · refine Or.inl ⟨by rfl, ?_⟩; intro w hSw; (try dsimp only at hSw); go_simp; (try with_reducible rfl)
      · assumption
      try simp only [Act.put, sA, sB, sC]
      refine wpAnyH_take (i := 36) (oi := ?_) (v := ?_) ?_ ?_ ?_ ?_ ?_ ?_ ?_ ?_
      rotate_left 2
      · simp only [gA, gB, gC]; rfl
      · kernel_rfl
      · kernel_rfl
      · kernel_rfl
      · exact fun _ _ _ h => h
      · refine Or.inl ⟨by rfl, ?_⟩; intro w hSw; (try dsimp only at hSw); go_simp; (try with_reducible rfl)
      · assumption
      try simp only [Act.put, sA, sB, sC]
      refine wpAnyH_done (by kernel_rfl) ?_ _
      go_wp2_with fail
      go_ret
      exact ⟨ret_bool HZ.out, (TE.out.grow hk2).all⟩
set_option maxHeartbeats 4000000 in
theorem s_CheckLP (h : LpC w a na ca b nb cb c nc cc A B C) (h' : LrC w xa xn xc ya yn yc ra rn rc r) (ok : okLP A B C = true) :
    Calls Tryz.prog 131 #[lpW a na ca b nb cb c nc cc, lrW r xa xn xc ya yn yc ra rn rc] w fun e w' => e = .returned (.bool (checkG boundS A B C r)) ∧ Ext w w' := by
  by_cases h1 : r.status = 1
  · exact s_CheckLP1 h h' ok h1
  by_cases h2 : r.status = 2
  · exact s_CheckLP2 h h' ok h2
  by_cases h3 : r.status = 3
  · exact s_CheckLP3 h h' ok h3
  have HE := Lib.hid (show checkG boundS A B C r = false by unfold checkG; rw [if_neg h1, if_neg h2, if_neg h3])
  have T0 := Lib.hid (show Two w ((w.alloc (lpBox a na ca b nb cb c nc cc)).alloc (lrBox r xa xn xc ya yn yc ra rn rc)) a na ca b nb cb c nc cc xa xn xc ya yn yc ra rn rc r A B C from ⟨Ext.refl _, (h.ext (Ext.alloc _ _)).ext (Ext.alloc _ _), (h'.ext (Ext.alloc _ _)).ext (Ext.alloc _ _)⟩)
  have HV := Lib.hid (s_IsValidLP T0.out.lp)
  rw [ok] at HV
  obtain ⟨st, rX, rY, rr, rv, rp⟩ := r
  obtain ⟨v1, v2⟩ := rv
  simp only at h1 h2 h3
  have e1 : (st == 1) = false := by simp; omega
  have e2 : (st == 2) = false := by simp; omega
  have e3 : (st == 3) = false := by simp; omega
  clear h h' h1 h2 h3
  go_enter Tryz.func131, Tryz.ntmps131
  obtain ⟨p0, p1, p2⟩ := T0.out.p
  obtain ⟨q0, q1, q2, q3, q4, q5⟩ := T0.out.q
  go_wp2_with fail
  refine HV.out.mono ?_
  rintro e w1 ⟨rfl, hx⟩
  have T1 := Lib.hid (T0.out.grow hx)
  clear hx p0 p1 p2 q0 q1 q2 q3 q4 q5
  obtain ⟨p0, p1, p2⟩ := T1.out.p
  obtain ⟨q0, q1, q2, q3, q4, q5⟩ := T1.out.q
  go_wp2_with fail
  go_ret
  exact ⟨ret_bool HE.out.symm, T1.out.all⟩
end
end Go.Proofs.YtgohdmnbnhehnaaGreat
