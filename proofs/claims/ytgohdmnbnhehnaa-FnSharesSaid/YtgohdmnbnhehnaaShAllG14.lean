import Derived.Test.YtgohdmnbnhehnaaShAllG11
import Derived.Test.YtgohdmnbnhehnaaShAllG10
import Derived.Test.YtgohdmnbnhehnaaShAllG13
namespace Go.Proofs.Ytgohdmnbnhehnaa
set_option linter.unusedVariables false
open Go.RowKit
theorem mem_all : ∀ n : Fin 6, memI (((cN n.val - 1 : Nat)) : Int) 5 = (List.range n.val).map fun (k : Nat) => (k : Int) := by decide +kernel
theorem small_mul {x y : Int} {a b : Nat} (h1 : x.natAbs ≤ a) (h2 : y.natAbs ≤ b) : (x * y).natAbs ≤ a * b := by rw [Int.natAbs_mul]; exact Nat.mul_le_mul h1 h2
theorem share_run {X : List (Int × Int)} {n : Nat} {D : Int} {S : Nat → Int} (hD : 1 ≤ D ∧ D ≤ 120) (hn : n ≤ 5) (hX : X.length = n) (hF : ∀ k, k < n → Fr (X[k]?.getD (0, 0)) (S k) D) (hS : ∀ k, -32000000 ≤ S k ∧ S k ≤ 32000000) :
    ∀ j, j ≤ n → ∃ r, payT X ((List.range j).map fun (k : Nat) => (k : Int)) (0, 1) = some r ∧ Fr r ((List.range j).map S).sum D ∧ (((List.range j).map S).sum).natAbs ≤ j * 32000000
  | 0, _ => ⟨(0, 1), rfl, (Fr.int 0 (by omega) (by omega)).move (by omega) (by simp), by simp⟩
  | j + 1, hj => by
    obtain ⟨r, h1, h2, h3⟩ := share_run hD hn hX hF hS j (by omega)
    have h4 := hF j (by omega)
    have h5 := hS j
    have e1 : (((List.range (j + 1)).map S).sum) = ((List.range j).map S).sum + S j := by rw [List.range_succ, List.map_append, List.sum_append]; simp
    obtain ⟨T, hT⟩ : ∃ T, T = ((List.range j).map S).sum := ⟨_, rfl⟩
    rw [← hT] at h2 h3 e1
    have b1 := h2.size
    have b2 := h4.size
    have hj5 : j * 32000000 ≤ 160000000 := by omega
    have m1 := small_mul (x := r.1) (y := (X[j]?.getD (0, 0)).2) (a := 160000000) (b := 120) (by omega) (by have := (valR_bd h4.1).1; omega)
    have m2 := small_mul (x := (X[j]?.getD (0, 0)).1) (y := r.2) (a := 160000000) (b := 120) (by omega) (by have := (valR_bd h2.1).1; omega)
    obtain ⟨r', ha, hf⟩ := h2.add h4 (z := T + S j) (F := D) (by omega) (by omega) (by omega) (by omega) (by grind)
    refine ⟨r', ?_, by rw [e1]; exact hf, by rw [e1]; omega⟩
    rw [List.range_succ, List.map_append, payT_append, h1]
    show payT X [(j : Int)] r = some r'
    simp only [payT]
    rw [if_neg (by rw [hX]; omega), Int.toNat_natCast, ha, if_pos rfl]
end Go.Proofs.Ytgohdmnbnhehnaa
namespace Go.Proofs.Ytgohdmnbnhehnaa
set_option linter.unusedVariables false
open Go.RowKit
theorem award_not {C : List Int} {x y : Int} (h : fitsR C x y = false) : awardOk C x y = false ∧ awardL C x y = [] := by
  constructor
  · unfold awardOk; rw [h]; rfl
  · unfold awardL; rw [if_neg (by rw [h]; simp)]
theorem sum_congrN {F G : Nat → Int} : ∀ n, (∀ k, k < n → F k = G k) → ((List.range n).map F).sum = ((List.range n).map G).sum
  | n, h => by
    congr 1
    exact List.map_congr_left fun k hk => h k (List.mem_range.1 hk)
theorem award_yes {C : List Int} {x y : Int} (h : fitsR C x y = true) (hn : C.length ≤ 3) (hC : ∀ j : Nat, C[j]?.getD 0 ≤ 1000) (hy : y ≤ 3) :
    awardOk C x y = true ∧ (awardL C x y).length = C.length ∧ (∀ k, k < C.length → 0 ≤ ((awardL C x y)[k]?.getD (0, 0)).1 ∧ cmpR ((awardL C x y)[k]?.getD (0, 0)) (C[k]?.getD 0, 1) ≤ 0) ∧
    (∀ i k, i < C.length → k < C.length → C[i]?.getD 0 = C[k]?.getD 0 → (awardL C x y)[i]?.getD (0, 0) = (awardL C x y)[k]?.getD (0, 0)) ∧ shareP (awardL C x y) (cN C.length - 1) = some (x, y) := by
  obtain ⟨h1, h2, S, hE, hrow, hsame, hsum⟩ := award_law h hn hy hC
  obtain ⟨_, _, _, hv, _⟩ := fits_sum h
  refine ⟨h1, h2, fun k hk => ?_, fun i k hi hk he => ?_, ?_⟩
  · obtain ⟨hf, s0, s1, s2⟩ := hrow k hk
    have hb := valR_bd hf.1
    have hc0 : C[k]?.getD 0 ≤ 1000 := hC k
    have hcn : 0 ≤ C[k]?.getD 0 := by
      rcases Int.lt_or_le (C[k]?.getD 0) 0 with h | h
      · have : C[k]?.getD 0 * (y * facI C.length) < 0 := Int.mul_neg_of_neg_of_pos h (by omega)
        omega
      · exact h
    constructor
    · rcases Int.lt_or_le ((awardL C x y)[k]?.getD (0, 0)).1 0 with h | h
      · have h3 := hf.2.2
        have h4 : ((awardL C x y)[k]?.getD (0, 0)).1 * (y * facI C.length) < 0 := Int.mul_neg_of_neg_of_pos h hf.2.1
        have h5 : 0 ≤ S k * ((awardL C x y)[k]?.getD (0, 0)).2 := Int.mul_nonneg s0 (by omega)
        omega
      · exact h
    · rw [hf.cmp (Fr.int (C[k]?.getD 0) (by omega) (by omega)), Int.mul_one]
      split
      · omega
      · rw [if_neg (by omega)]; omega
  · have := hsame i k hi hk he
    exact (hrow i hi).1.eq (hrow k hk).1 (by rw [this])
  · have hF : ∀ k, k < C.length → Fr ((awardL C x y)[k]?.getD (0, 0)) (if k < C.length then S k else 0) (y * facI C.length) := fun k hk => by rw [if_pos hk]; exact (hrow k hk).1
    obtain ⟨r, r1, r2, _⟩ := share_run (X := awardL C x y) (n := C.length) (D := y * facI C.length) (S := fun k => if k < C.length then S k else 0) (by omega) (by omega) h2 hF (fun k => by
      split
      · next hk => have := (hrow k hk).2; omega
      · omega) C.length (Nat.le_refl _)
    have hs : ((List.range C.length).map fun k => if k < C.length then S k else 0).sum = x * facI C.length := by
      rw [← hsum]; exact sum_congrN _ fun k hk => if_pos hk
    rw [hs] at r2
    have hr : r = (x, y) := r2.eq ((Fr.self hv).scale (k := facI C.length) (facI_pos _)) rfl
    have := mem_all ⟨C.length, by omega⟩
    simp only at this
    unfold shareP
    rw [this, r1, hr]
end Go.Proofs.Ytgohdmnbnhehnaa
namespace Go.Proofs.Ytgohdmnbnhehnaa
set_option linter.unusedVariables false
set_option linter.unusedSimpArgs false
set_option maxRecDepth 100000
open Go.RowKit
set_option maxHeartbeats 4000000 in
theorem i_AddScaled {w : World} {k1 k2 : Int} {a b : Option Addr} {n cap n' cap' : Nat} {A B : List (Int × Int)} (h : Rats w a n cap A) (h' : Rats w b n' cap' B) (hbig : n ≤ 1048576) :
    Calls Try.prog 134 #[.slice a n cap, ratV k1 k2, .slice b n' cap'] w fun e w' => (∃ v, e = .returned (.tuple #[v, .bool (sclL A (k1, k2) B).isSome]) ∧ OwnR w' w.heap.size v ((sclL A (k1, k2) B).getD [])) ∧ Ext w w' := by
  have HL := Lib.hid h.hlen
  have HL' := Lib.hid h'.hlen
  have hmax := h.hmax
  have hcap := h.hcap
  have hmax' := h'.hmax
  have hcap' := h'.hcap
  have HA := Lib.hid h
  have HB' := Lib.hid h'
  have HX := Lib.hid (Ext.alloc w (.cells #[.int .i64 k1, .int .i64 k2] 34))
  clear h h'
  by_cases hne : n = n'
  · subst hne
    have HS := Lib.hid (show sclL A (k1, k2) B = runT (sclF A (k1, k2) B) n by unfold sclL; rw [HL.out, HL'.out, if_pos rfl])
    have HO := Lib.hid (OwnR.made (w.alloc (.cells #[.int .i64 k1, .int .i64 k2] 34)) (w.heap.size + 1) (by simp))
    go_enter Try.func134, Try.ntmps134
    go_wp2_with fail
    go_loopg [8, 22] n (fun gk o i wr => ∃ (k : Nat) (a1 : Option Addr) (n1 p1 : Nat) (r : List (Int × Int)), Hid (gk + k = n) ∧ i = .int .i64 (k : Int) ∧ o = .slice a1 n1 p1 ∧ Hid (runT (sclF A (k1, k2) B) k = some r) ∧ Hid (OwnR wr (w.heap.size + 1) (.slice a1 n1 p1) r) ∧ Hid (Ext (w.alloc (.cells #[.int .i64 k1, .int .i64 k2] 34)) wr))
    case atStart => exact ⟨0, _, _, _, [], Lib.hid (by omega), rfl, rfl, Lib.hid rfl, Lib.hid (by simpa using HO.out), Lib.hid (Ext.alloc _ _)⟩
    case round =>
      obtain ⟨k, a1, n1, p1, r, HK, rfl, rfl, HR, HO1, HX1⟩ := hrel
      have hszr := HX1.out.size
      rw [World.size_alloc] at hszr
      by_cases hlt : k < n
      · have hkc0 : wr.cell? ⟨w.heap.size, 0, none⟩ = some (.int .i64 k1) := HX1.out.cellSome (by simp)
        have hkc1 : wr.cell? ⟨w.heap.size, 1, none⟩ = some (.int .i64 k2) := HX1.out.cellSome (by simp)
        obtain ⟨ab, aoff, ax, ay, ha, hax, hac0, hac1⟩ := ((HA.out.ext HX.out).ext HX1.out).at hlt
        obtain ⟨bb, boff, bx, by', hb, hbx, hbc0, hbc1⟩ := ((HB'.out.ext HX.out).ext HX1.out).at hlt
        subst ha hb
        have HAX := Lib.hid hax
        have HBX := Lib.hid hbx
        obtain ⟨p, q, one, hm⟩ : ∃ p q ok, mulR (k1, k2) (bx, by') = ((p, q), ok) := ⟨_, _, _, rfl⟩
        have HM := Lib.hid hm
        obtain ⟨p2, q2, two, hs2⟩ : ∃ u v ok, addR (ax, ay) (p, q) = ((u, v), ok) := ⟨_, _, _, rfl⟩
        have HS2 := Lib.hid hs2
        clear hax hbx hm hs2
        go_upto_region 7 with fail
        go_cut [10, 11] (fun sx so wx => ∃ g : Nat, sx = .pointer (some ⟨g, 0, none⟩) ∧ so = .bool one ∧ Hid (Boxed wr wx g p q))
        case first =>
          have hk2 : Ext wr wr.drew := Ext.drew wr
          have hka : Ext wr (wr.alloc (.cells #[.int .i64 0, .int .i64 0] 34)).drew := (Ext.alloc _ _).trans (Ext.drew _)
          have HKEEP := Lib.hid (fun (w' : World) (h : Ext wr w') => (⟨h.cellSome hkc0, h.cellSome hkc1, h.cellSome hbc0, h.cellSome hbc1, h⟩ : w'.cell? ⟨w.heap.size, 0, none⟩ = some (.int .i64 k1) ∧ w'.cell? ⟨w.heap.size, 1, none⟩ = some (.int .i64 k2) ∧ w'.cell? ⟨bb, boff + k * 2, none⟩ = some (.int .i64 bx) ∧ w'.cell? ⟨bb, boff + k * 2 + 1, none⟩ = some (.int .i64 by') ∧ Ext wr w'))
          go_region_held3 (fun w' => w'.cell? ⟨w.heap.size, 0, none⟩ = some (.int .i64 k1) ∧ w'.cell? ⟨w.heap.size, 1, none⟩ = some (.int .i64 k2) ∧ w'.cell? ⟨bb, boff + k * 2, none⟩ = some (.int .i64 bx) ∧ w'.cell? ⟨bb, boff + k * 2 + 1, none⟩ = some (.int .i64 by') ∧ Ext wr w')
            (first
              | with_reducible exact HKEEP.out _ hk2
              | with_reducible exact HKEEP.out _ hka
              | with_reducible exact HKEEP.out _ ((hk2.setCell (by first | (simp; done) | (simp; omega)) _).setCell (by first | (simp; done) | (simp; omega)) _)
              | with_reducible exact HKEEP.out _ (hk2.trans (Ext.alloc _ _))
              | with_reducible exact HKEEP.out _ (hBB.put _ _).ext)
            (first
              | (go_at_call 150
                 (with_reducible refine (i_MulRat k1 k2 bx by' _).mono ?_)
                 rw [HM.out]
                 rintro e w3 ⟨rfl, hx_w3⟩
                 first | (with_reducible have hBB := Boxed.grow hBB hx_w3) | (with_reducible have hBB := Boxed.firstD hx_w3) | (with_reducible have hBB := Boxed.laterD hk2 hx_w3) | skip
                 first | (have b0_ := hBB.c0; have b1_ := hBB.c1; have fb_ := hBB.free) | skip
                 have hk2 : Ext wr w3 := by first | with_reducible exact hk2.trans hx_w3 | with_reducible exact hka.trans hx_w3 | with_reducible exact (hk2.trans (Ext.alloc _ _)).trans hx_w3
                 have hk2s := hk2.size)
              | fail)
          all_goals (go_wp2_with fail; go_meet; first | exact ⟨_, rfl, rfl, Lib.hid (hBB.put _ _)⟩ | exact ⟨_, rfl, rfl, Lib.hid (Boxed.new hk2 _ _)⟩ | exact ⟨_, rfl, rfl, Lib.hid (Boxed.new' hk2 _ _ (by simp))⟩)
        obtain ⟨g, rfl, rfl, HB1⟩ := hcut
        have g0 := HB1.out.c0
        have g1 := HB1.out.c1
        replace hac0 := HB1.out.ext.cellSome hac0
        replace hac1 := HB1.out.ext.cellSome hac1
        clear hkc0 hkc1 hbc0 hbc1
        go_upto_region 8 with fail
        go_cut [12, 13] (fun sx so wx => ∃ g2 : Nat, sx = .pointer (some ⟨g2, 0, none⟩) ∧ so = .bool two ∧ Hid (Boxed wc wx g2 p2 q2))
        case first =>
          have hk2 : Ext wc wc.drew := Ext.drew wc
          have hka : Ext wc (wc.alloc (.cells #[.int .i64 0, .int .i64 0] 34)).drew := (Ext.alloc _ _).trans (Ext.drew _)
          have HKEEP := Lib.hid (fun (w' : World) (h : Ext wc w') => (⟨h.cellSome hac0, h.cellSome hac1, h.cellSome g0, h.cellSome g1, h⟩ : w'.cell? ⟨ab, aoff + k * 2, none⟩ = some (.int .i64 ax) ∧ w'.cell? ⟨ab, aoff + k * 2 + 1, none⟩ = some (.int .i64 ay) ∧ w'.cell? ⟨g, 0, none⟩ = some (.int .i64 p) ∧ w'.cell? ⟨g, 1, none⟩ = some (.int .i64 q) ∧ Ext wc w'))
          go_region_held3 (fun w' => w'.cell? ⟨ab, aoff + k * 2, none⟩ = some (.int .i64 ax) ∧ w'.cell? ⟨ab, aoff + k * 2 + 1, none⟩ = some (.int .i64 ay) ∧ w'.cell? ⟨g, 0, none⟩ = some (.int .i64 p) ∧ w'.cell? ⟨g, 1, none⟩ = some (.int .i64 q) ∧ Ext wc w')
            (first
              | with_reducible exact HKEEP.out _ hk2
              | with_reducible exact HKEEP.out _ hka
              | with_reducible exact HKEEP.out _ ((hk2.setCell (by first | (simp; done) | (simp; omega)) _).setCell (by first | (simp; done) | (simp; omega)) _)
              | with_reducible exact HKEEP.out _ (hk2.trans (Ext.alloc _ _))
              | with_reducible exact HKEEP.out _ (hBB.put _ _).ext)
            (first
              | (go_at_call 26
                 (with_reducible refine (i_AddRat ax ay p q _).mono ?_)
                 rw [HS2.out]
                 rintro e w4 ⟨rfl, hx_w4⟩
                 first | (with_reducible have hBB := Boxed.grow hBB hx_w4) | (with_reducible have hBB := Boxed.firstD hx_w4) | (with_reducible have hBB := Boxed.laterD hk2 hx_w4) | skip
                 first | (have b0_ := hBB.c0; have b1_ := hBB.c1; have fb_ := hBB.free) | skip
                 have hk2 : Ext wc w4 := by first | with_reducible exact hk2.trans hx_w4 | with_reducible exact hka.trans hx_w4 | with_reducible exact (hk2.trans (Ext.alloc _ _)).trans hx_w4
                 have hk2s := hk2.size)
              | fail)
          all_goals (go_wp2_with fail; go_meet; first | exact ⟨_, rfl, rfl, Lib.hid (hBB.put _ _)⟩ | exact ⟨_, rfl, rfl, Lib.hid (Boxed.new hk2 _ _)⟩ | exact ⟨_, rfl, rfl, Lib.hid (Boxed.new' hk2 _ _ (by simp))⟩)
        obtain ⟨g2, rfl, rfl, HB2⟩ := hcut
        have X2 := Lib.hid ((HX1.out.trans HB1.out.ext).trans HB2.out.ext)
        have HO2 := Lib.hid ((HO1.out.ext HB1.out.ext).ext HB2.out.ext)
        have h0 := HB2.out.c0
        have h1 := HB2.out.c1
        have HF := Lib.hid (show sclF A (k1, k2) B k = if (one && two) = true then some (p2, q2) else none by unfold sclF; rw [HAX.out, HBX.out, HM.out]; simp only; rw [HS2.out]; simp only [Bool.and_eq_true])
        clear hac0 hac1 g0 g1
        cases hb12 : (one && two)
        · have HN := Lib.hid (show runT (sclF A (k1, k2) B) n = none from runT_fail HR.out (by rw [HF.out, hb12]; rfl) hlt)
          cases one
          case' true => (have h2 : two = false := by simpa using hb12); subst h2
          all_goals
            clear hb12
            go_wp2_with fail
            refine bodyPost_ret (v := .tuple #[.slice none 0 0, .bool false]) (by simp [results, Try.results134, go_sem]) rfl ⟨⟨.slice none 0 0, by rw [HS.out, HN.out]; rfl, by rw [HS.out, HN.out]; exact OwnR.nil _ _⟩, HX.out.trans X2.out⟩
        · obtain ⟨rfl, rfl⟩ : one = true ∧ two = true := by simpa using hb12
          have HR2 := Lib.hid (runT_some (x := (p2, q2)) HR.out (by rw [HF.out]; rfl))
          have HLR := Lib.hid (runT_len HR.out)
          have hszc := X2.out.size
          rw [World.size_alloc] at hszc
          clear hb12
          go_wp2_with (first
            | (at_builtin; refine append_rats rfl _ _ rfl (w.heap.size + 1) (.slice a1 n1 p1) _ rfl (HO2.out.ext (Ext.alloc _ _)) _ 1 _ [(p2, q2)] rfl (Rats.one' _ _ _ _ _ (by simp)) (by rw [HLR.out]; omega) (by simp; omega) ?_; intro v2 w4 ho hg hnear; obtain ⟨a2, n2, c2, rfl, HN2⟩ := ho.var; have HO4 := Lib.hid ho; have X5 := Lib.hid (ext_grown (X2.out.trans (Ext.alloc _ _)) hg (fun j hj => by have := (HO2.out.lt j hj).1; simpa using this)); clear ho hg hnear))
          go_roundg (gk - 1)
          case measure => have := HK.out; omega
          case rel => exact ⟨k + 1, a2, n2, c2, _, Lib.hid (by have := HK.out; omega), by go_num, rfl, HR2, HO4, X5⟩
      · have hkn : k = n := by have := HK.out; omega
        subst hkn
        go_wp2_with fail
        refine bodyPost_ret (v := .tuple #[.slice a1 n1 p1, .bool true]) (by simp [results, Try.results134, go_sem]) rfl ⟨⟨.slice a1 n1 p1, by rw [HS.out, HR.out]; rfl, by rw [HS.out, HR.out]; exact HO1.out.mono (Nat.le_succ _)⟩, HX.out.trans HX1.out⟩
  · have HN := Lib.hid (show sclL A (k1, k2) B = none by unfold sclL; rw [HL.out, HL'.out, if_neg hne])
    go_enter Try.func134, Try.ntmps134
    go_wp2_with fail
    refine bodyPost_ret (v := .tuple #[.slice none 0 0, .bool false]) (by simp [results, Try.results134, go_sem]) rfl ⟨⟨.slice none 0 0, by rw [HN.out]; rfl, by rw [HN.out]; exact OwnR.nil _ _⟩, HX.out⟩
end Go.Proofs.Ytgohdmnbnhehnaa
namespace Go.Proofs.Ytgohdmnbnhehnaa
set_option linter.unusedVariables false
set_option linter.unusedSimpArgs false
set_option maxRecDepth 100000
open Go.RowKit
theorem wholeL_snoc {C : List Int} {k : Nat} (h : k < C.length) : wholeL (C.take k) ++ [(C[k]?.getD 0, 1)] = wholeL (C.take (k + 1)) := by
  rw [take_snoc h]; simp [wholeL]
def ratsL (C : List Int) : List (Int × Int) := if fitL C = true then wholeL C else []
set_option maxHeartbeats 4000000 in
theorem i_IntsToRats {w : World} {a : Option Addr} {n cap : Nat} {C : List Int} (h : Ints w a n cap C) (hbig : n ≤ 1048576) :
    Calls Try.prog 151 #[.slice a n cap] w fun e w' => (∃ v, e = .returned (.tuple #[v, .bool (fitL C)]) ∧ OwnR w' w.heap.size v (ratsL C)) ∧ Ext w w' := by
  have HL := Lib.hid h.hlen
  have hmax := h.hmax
  have hcap := h.hcap
  have HC := Lib.hid h
  clear h
  have HO := Lib.hid (OwnR.made w w.heap.size (Nat.le_refl _))
  go_enter Try.func151, Try.ntmps151
  go_wp2_with fail
  go_loopg [4, 10] n (fun gk o i wr => ∃ (k : Nat) (a1 : Option Addr) (n1 p1 : Nat), Hid (gk + k = n) ∧ i = .int .i64 (k : Int) ∧ o = .slice a1 n1 p1 ∧ Hid (fitL (C.take k) = true) ∧ Hid (OwnR wr w.heap.size (.slice a1 n1 p1) (wholeL (C.take k))) ∧ Hid (Ext w wr))
  case atStart => exact ⟨0, _, _, _, Lib.hid (by omega), rfl, rfl, Lib.hid rfl, HO, Lib.hid (Ext.alloc _ _)⟩
  case round =>
    obtain ⟨k, a1, n1, p1, HK, rfl, rfl, HF, HO1, HX1⟩ := hrel
    by_cases hlt : k < n
    · obtain ⟨b, off, ha, hc⟩ := (HC.out.ext HX1.out).at hlt
      subst ha
      obtain ⟨c, hcc⟩ : ∃ c, c = C[k]?.getD 0 := ⟨_, rfl⟩
      rw [← hcc] at hc
      have HCC := Lib.hid hcc
      have hszr := HX1.out.size
      clear hcc
      have HKL := Lib.hid (show k < C.length by have := HL.out; omega)
      cases hin : inB c (-1000000000) 1000000000
      · have HN := Lib.hid (show fitL C = false by
          rw [← Bool.not_eq_true]; intro hh
          have := all_get (k := k) hh HKL.out
          rw [← HCC.out, hin] at this; cases this)
        have HI := Lib.hid (i_within c (-1000000000) 1000000000 wr)
        rw [hin] at HI
        clear hin
        go_wp2_with fail
        refine HI.out.mono ?_
        rintro e w2 ⟨rfl, rfl⟩
        go_wp2_with fail
        refine bodyPost_ret (v := .tuple #[.slice none 0 0, .bool false]) (by simp [results, Try.results151, go_sem]) rfl ⟨⟨.slice none 0 0, by rw [HN.out], by unfold ratsL; rw [HN.out]; exact OwnR.nil _ _⟩, HX1.out⟩
      · have HF2 := Lib.hid (show fitL (C.take (k + 1)) = true by
          unfold fitL
          rw [take_snoc HKL.out, List.all_append]
          have := HF.out; unfold fitL at this
          rw [this, ← HCC.out]
          simp only [List.all_cons, List.all_nil, hin, Bool.and_self])
        have HI := Lib.hid (i_within c (-1000000000) 1000000000 wr)
        rw [hin] at HI
        clear hin
        go_wp2_with fail
        refine HI.out.mono ?_
        rintro e w2 ⟨rfl, rfl⟩
        have HLW := Lib.hid (show (wholeL (C.take k)).length = k by rw [wholeL_len, List.length_take]; have := HKL.out; omega)
        go_wp2_with (first
          | (go_at_call 91; refine (i_whole c _).mono ?_; rintro e w3 ⟨rfl, hx3⟩; have HX3 := Lib.hid hx3; have HO3 := Lib.hid (HO1.out.ext hx3); have hsz3 := hx3.size; clear hx3)
          | (at_builtin; refine append_rats rfl _ _ rfl w.heap.size (.slice a1 n1 p1) _ rfl (HO3.out.ext (Ext.alloc _ _)) _ 1 _ [(c, 1)] rfl (Rats.one' _ _ _ _ _ (by simp)) (by rw [HLW.out]; omega) (by simp; omega) ?_; intro v2 w4 ho hg hnear; obtain ⟨a2, n2, c2, rfl, HN2⟩ := ho.var; have HO4 := Lib.hid ho; have X4 := Lib.hid (ext_grown ((HX1.out.trans HX3.out).trans (Ext.alloc _ _)) hg (fun j hj => (HO3.out.lt j hj).1)); clear ho hg hnear))
        go_roundg (gk - 1)
        case measure => have := HK.out; omega
        case rel => exact ⟨k + 1, a2, n2, c2, Lib.hid (by have := HK.out; omega), by go_num, rfl, HF2, Lib.hid (by have := HO4.out; rw [HCC.out, wholeL_snoc HKL.out] at this; exact this), X4⟩
    · have hkn : k = n := by have := HK.out; omega
      subst hkn
      have HT := Lib.hid (show C.take k = C from List.take_of_length_le (by rw [HL.out]; exact Nat.le_refl _))
      go_wp2_with fail
      refine bodyPost_ret (v := .tuple #[.slice a1 n1 p1, .bool true]) (by simp [results, Try.results151, go_sem]) rfl ⟨⟨.slice a1 n1 p1, ?_, ?_⟩, HX1.out⟩
      · have := HF.out; rw [HT.out] at this; rw [this]
      · have h1 := HF.out; have h2 := HO1.out; rw [HT.out] at h1 h2; unfold ratsL; rw [if_pos h1]; exact h2
set_option maxHeartbeats 400000 in
theorem i_rats {w : World} {a : Option Addr} {n cap : Nat} {C : List Int} (h : Ints w a n cap C) (hbig : n ≤ 1048576) :
    Calls Try.prog 135 #[.slice a n cap] w fun e w' => (∃ v, e = .returned v ∧ OwnR w' w.heap.size v (ratsL C)) ∧ Ext w w' := by
  have HI := Lib.hid (i_IntsToRats h hbig)
  clear h
  go_enter Try.func135, Try.ntmps135
  go_wp2_with fail
  refine HI.out.mono ?_
  rintro e w1 ⟨⟨v, rfl, ho⟩, hx⟩
  have HO := Lib.hid ho
  have HX := Lib.hid hx
  clear ho hx
  go_wp2_with fail
  go_ret
  exact ⟨⟨v, rfl, HO.out⟩, HX.out⟩
def lessL (C : List Int) (L : List (Int × Int)) : Option (List (Int × Int)) := sclL (ratsL C) (-1, 1) L
theorem ratsL_len (C : List Int) : (ratsL C).length ≤ C.length := by unfold ratsL; split <;> simp [wholeL_len]
set_option maxHeartbeats 400000 in
theorem i_claimsLess {w : World} {a b : Option Addr} {n cap m cap' : Nat} {C : List Int} {L : List (Int × Int)} (h : Ints w a n cap C) (h' : Rats w b m cap' L) (hbig : n ≤ 1048576) :
    Calls Try.prog 100 #[.slice a n cap, .slice b m cap'] w fun e w' => (∃ v, e = .returned (.tuple #[v, .bool (lessL C L).isSome]) ∧ OwnR w' w.heap.size v ((lessL C L).getD [])) ∧ Ext w w' := by
  have HI := Lib.hid (i_rats h hbig)
  have HC := Lib.hid (ratsL_len C)
  have HL := Lib.hid h.hlen
  have HB := Lib.hid h'
  clear h h'
  go_enter Try.func100, Try.ntmps100
  go_wp2_with fail
  refine HI.out.mono ?_
  rintro e w1 ⟨⟨v, rfl, ho⟩, hx⟩
  obtain ⟨a1, n1, p1, rfl, HN⟩ := ho.var
  have HO := Lib.hid ho
  have HX := Lib.hid hx
  clear ho hx
  go_wp2_with fail
  refine (i_whole _ _).mono ?_
  rintro e w2 ⟨rfl, hx⟩
  have HX2 := Lib.hid (HX.out.trans hx)
  have HO2 := Lib.hid (HO.out.ext hx)
  clear hx
  have HA := Lib.hid (i_AddScaled (k1 := -1) (k2 := 1) HO2.out.rats (HB.out.ext HX2.out) (by have := HC.out; have := HL.out; have := HN.out; omega))
  go_wp2_with fail
  refine HA.out.mono ?_
  rintro e w3 ⟨⟨v, rfl, ho⟩, hx⟩
  have HO3 := Lib.hid (ho.mono HX2.out.size)
  have HX3 := Lib.hid (HX2.out.trans hx)
  clear ho hx
  go_wp2_with fail
  refine bodyPost_ret (v := .tuple #[v, .bool (lessL C L).isSome]) (by simp [results, Try.results100, go_sem, lessL]) rfl ⟨⟨v, rfl, HO3.out⟩, HX3.out⟩
set_option maxHeartbeats 4000000 in
theorem s_l18Lose {w : World} {a b : Option Addr} {n cap m cap' : Nat} {C : List Int} {L : List (Int × Int)} (h : Ints w a n cap C) (h' : Rats w b m cap' L) (hmn : m ≤ n) (hbig : n ≤ 1048576) :
    Calls Try.prog 102 #[.slice a n cap, .slice b m cap'] w fun e w' => (∃ v, e = .returned (.tuple #[v, .bool (runT (loseF C L) m).isSome]) ∧ OwnR w' w.heap.size v ((runT (loseF C L) m).getD [])) ∧ Ext w w' := by
  have HL := Lib.hid h.hlen
  have hmax := h.hmax
  have hcap := h.hcap
  have hmax' := h'.hmax
  have hcap' := h'.hcap
  have HC := Lib.hid h
  have HB := Lib.hid h'
  clear h h'
  have HO := Lib.hid (OwnR.made w w.heap.size (Nat.le_refl _))
  go_enter Try.func102, Try.ntmps102
  go_wp2_with fail
  go_loopg [6, 7] m (fun gk o i wr => ∃ (k : Nat) (a1 : Option Addr) (n1 p1 : Nat) (r : List (Int × Int)), Hid (gk + k = m) ∧ i = .int .i64 (k : Int) ∧ o = .slice a1 n1 p1 ∧ Hid (runT (loseF C L) k = some r) ∧ Hid (OwnR wr w.heap.size (.slice a1 n1 p1) r) ∧ Hid (Ext w wr))
  case atStart => exact ⟨0, _, _, _, [], Lib.hid (by omega), rfl, rfl, Lib.hid rfl, HO, Lib.hid (Ext.alloc _ _)⟩
  case round =>
    obtain ⟨k, a1, n1, p1, r, HK, rfl, rfl, HR, HO1, HX1⟩ := hrel
    have hszr := HX1.out.size
    by_cases hlt : k < m
    · have hltn : k < n := by omega
      obtain ⟨ab, aoff, ha, hac⟩ := (HC.out.ext HX1.out).at hltn
      obtain ⟨bb, boff, bx, by', hb, hbx, hbc0, hbc1⟩ := (HB.out.ext HX1.out).at hlt
      subst ha hb
      obtain ⟨c, hcc⟩ : ∃ c, c = C[k]?.getD 0 := ⟨_, rfl⟩
      rw [← hcc] at hac
      obtain ⟨p, q, ok, hm⟩ : ∃ p q ok, subR (c, 1) (bx, by') = ((p, q), ok) := ⟨_, _, _, rfl⟩
      have HM := Lib.hid hm
      have HF := Lib.hid (show loseF C L k = if ok = true then some (p, q) else none by unfold loseF; rw [← hcc, hbx, hm])
      clear hcc hbx hm
      go_upto_region 5 with fail
      go_cut [8, 9] (fun sx so wx => ∃ g : Nat, sx = .pointer (some ⟨g, 0, none⟩) ∧ so = .bool ok ∧ Hid (Boxed wr wx g p q))
      case first =>
        have hk2 : Ext wr wr.drew := Ext.drew wr
        have hka : Ext wr (wr.alloc (.cells #[.int .i64 0, .int .i64 0] 34)).drew := (Ext.alloc _ _).trans (Ext.drew _)
        have HKEEP := Lib.hid (fun (w' : World) (h : Ext wr w') => (⟨h.cellSome hac, h.cellSome hbc0, h.cellSome hbc1, h⟩ : w'.cell? ⟨ab, aoff + k, none⟩ = some (.int .i64 c) ∧ w'.cell? ⟨bb, boff + k * 2, none⟩ = some (.int .i64 bx) ∧ w'.cell? ⟨bb, boff + k * 2 + 1, none⟩ = some (.int .i64 by') ∧ Ext wr w'))
        go_region_held3 (fun w' => w'.cell? ⟨ab, aoff + k, none⟩ = some (.int .i64 c) ∧ w'.cell? ⟨bb, boff + k * 2, none⟩ = some (.int .i64 bx) ∧ w'.cell? ⟨bb, boff + k * 2 + 1, none⟩ = some (.int .i64 by') ∧ Ext wr w')
          (first
            | with_reducible exact HKEEP.out _ hk2
            | with_reducible exact HKEEP.out _ hka
            | with_reducible exact HKEEP.out _ ((hk2.setCell (by first | (simp; done) | (simp; omega)) _).setCell (by first | (simp; done) | (simp; omega)) _)
            | with_reducible exact HKEEP.out _ (hk2.trans (Ext.alloc _ _))
            | with_reducible exact HKEEP.out _ (hBB.put _ _).ext)
          (first
            | (go_at_call 74
               (with_reducible refine (s_l3Int c _).mono ?_)
               rintro e w2 ⟨rfl, hx_w2⟩
               first | (with_reducible have hBB := Boxed.grow hBB hx_w2) | (with_reducible have hBB := Boxed.firstD hx_w2) | (with_reducible have hBB := Boxed.laterD hk2 hx_w2) | skip
               first | (have b0_ := hBB.c0; have b1_ := hBB.c1; have fb_ := hBB.free) | skip
               have hk2 : Ext wr w2 := by first | with_reducible exact hk2.trans hx_w2 | with_reducible exact hka.trans hx_w2 | with_reducible exact (hk2.trans (Ext.alloc _ _)).trans hx_w2
               have hk2s := hk2.size)
            | (go_at_call 98
               (with_reducible refine (s_SubRat c 1 bx by' _).mono ?_)
               rw [HM.out]
               rintro e w3 ⟨rfl, hx_w3⟩
               first | (with_reducible have hBB := Boxed.grow hBB hx_w3) | (with_reducible have hBB := Boxed.firstD hx_w3) | (with_reducible have hBB := Boxed.laterD hk2 hx_w3) | skip
               first | (have b0_ := hBB.c0; have b1_ := hBB.c1; have fb_ := hBB.free) | skip
               have hk2 : Ext wr w3 := by first | with_reducible exact hk2.trans hx_w3 | with_reducible exact hka.trans hx_w3 | with_reducible exact (hk2.trans (Ext.alloc _ _)).trans hx_w3
               have hk2s := hk2.size)
            | fail)
        all_goals (go_wp2_with fail; go_meet; first | exact ⟨_, rfl, rfl, Lib.hid (hBB.put _ _)⟩ | exact ⟨_, rfl, rfl, Lib.hid (Boxed.new hk2 _ _)⟩ | exact ⟨_, rfl, rfl, Lib.hid (Boxed.new' hk2 _ _ (by simp))⟩)
      obtain ⟨g, rfl, rfl, HB1⟩ := hcut
      have g0 := HB1.out.c0
      have g1 := HB1.out.c1
      have X2 := Lib.hid (HX1.out.trans HB1.out.ext)
      have HO2 := Lib.hid (HO1.out.ext HB1.out.ext)
      clear hac hbc0 hbc1
      have hszc := X2.out.size
      cases ok
      · have HN := Lib.hid (show runT (loseF C L) m = none from runT_fail HR.out (by rw [HF.out]; rfl) hlt)
        have HM2 := Lib.hid (OwnR.made wc w.heap.size hszc)
        go_wp2_with fail
        refine bodyPost_ret (v := .tuple #[.slice (some ⟨wc.heap.size, 0, none⟩) 0 0, .bool false]) (by simp [results, Try.results102, go_sem]) rfl ⟨⟨_, by rw [HN.out]; rfl, by rw [HN.out]; exact HM2.out⟩, X2.out.trans (Ext.alloc _ _)⟩
      · have HR2 := Lib.hid (runT_some (x := (p, q)) HR.out (by rw [HF.out]; rfl))
        have HLR := Lib.hid (runT_len HR.out)
        go_wp2_with (first
          | (at_builtin; refine append_rats rfl _ _ rfl w.heap.size (.slice a1 n1 p1) _ rfl (HO2.out.ext (Ext.alloc _ _)) _ 1 _ [(p, q)] rfl (Rats.one' _ _ _ _ _ (by simp)) (by rw [HLR.out]; omega) (by simp; omega) ?_; intro v2 w4 ho hg hnear; obtain ⟨a2, n2, c2, rfl, HN2⟩ := ho.var; have HO4 := Lib.hid ho; have X5 := Lib.hid (ext_grown (X2.out.trans (Ext.alloc _ _)) hg (fun j hj => (HO2.out.lt j hj).1)); clear ho hg hnear))
        go_roundg (gk - 1)
        case measure => have := HK.out; omega
        case rel => exact ⟨k + 1, a2, n2, c2, _, Lib.hid (by have := HK.out; omega), by go_num, rfl, HR2, HO4, X5⟩
    · have hkn : k = m := by have := HK.out; omega
      subst hkn
      go_wp2_with fail
      refine bodyPost_ret (v := .tuple #[.slice a1 n1 p1, .bool true]) (by simp [results, Try.results102, go_sem]) rfl ⟨⟨.slice a1 n1 p1, by rw [HR.out]; rfl, by rw [HR.out]; exact HO1.out⟩, HX1.out⟩
end Go.Proofs.Ytgohdmnbnhehnaa
