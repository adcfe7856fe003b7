import Derived.Test.YtgohdmnbnhehnaaPlAllG12
import Derived.Test.YtgohdmnbnhehnaaPlAllG1
import Derived.Test.YtgohdmnbnhehnaaPlAllG8
import Derived.Test.YtgohdmnbnhehnaaPlAllG10
namespace Go.Proofs.Ytgohdmnbnhehnaa
set_option linter.unusedVariables false
set_option linter.unusedSimpArgs false
set_option maxRecDepth 100000
open Go.RowKit
theorem symS_bad {V : List Int} {i j m N : Nat} (h : symS V i j (m + 1) = false) (hm : m < N) : symS V i j N = false := by
  obtain ⟨d, rfl⟩ : ∃ d, N = m + 1 + d := ⟨N - (m + 1), by omega⟩
  exact symS_stuck h d
set_option maxHeartbeats 8000000 in
theorem i_AreSymmetric {w : World} {p x y : Int} {a : Option Addr} {n cap : Nat} {V : List Int} (h : Ints w a n cap V) :
    Calls Try.prog 16 #[pair p a n cap, .int .i64 x, .int .i64 y] w fun e w' => e = .returned (.bool (symOk p V x y)) ∧ Ext w w' := by
  obtain ⟨W, hW⟩ : ∃ W, W = w.alloc (.cells #[.int .i64 p, .slice a n cap] 26) := ⟨_, rfl⟩
  have hX : Ext w W := by rw [hW]; exact Ext.alloc _ _
  have k0 : W.cell? ⟨w.heap.size, 0, none⟩ = some (.int .i64 p) := by rw [hW]; simp
  have k1 : W.cell? ⟨w.heap.size, 1, none⟩ = some (.slice a n cap) := by rw [hW]; simp
  have HI := Lib.hid (h.ext hX)
  have K1 := Lib.hid k1
  have HX := Lib.hid hX
  have HL := Lib.hid h.hlen
  have hcap := h.hcap
  have hmax := h.hmax
  have HV := Lib.hid (i_IsValidGame (p := p) HI.out)
  have HS := Lib.hid (show symOk p V x y = (gameOk p V && (inB x 0 (p - 1) && (inB y 0 (p - 1) && symS V x.toNat y.toNat (cN p.toNat)))) from rfl)
  clear h hX
  go_enter Try.func16, Try.ntmps16
  go_upto_region 1 with fail
  rw [← hW]
  clear hW
  cases hg : gameOk p V
  · rw [hg] at HV HS
    clear hg
    go_wp2_with fail
    refine HV.out.mono ?_
    rintro e w1 ⟨rfl, hx1⟩
    have X1 := Lib.hid (HX.out.trans hx1)
    clear hx1
    go_wp2_with fail
    go_ret
    exact ⟨ret_bool (by rw [HS.out]; rfl), X1.out⟩
  rw [hg] at HV HS
  obtain ⟨q, rfl, hq1, hq5, hVl, _, hVb⟩ := gameOk_len hg
  have hc := cN_le q hq5
  have hnq : n = cN q := by have := HL.out; omega
  have HNQ := Lib.hid hnq
  have hn32 : n ≤ 32 := by omega
  have hw1 : IntKind.i64.wrap ((q : Int) - 1) = (q : Int) - 1 := by rw [IntKind.wrap_i64]; omega
  clear hg hVl hVb hnq
  go_wp2_with fail
  refine HV.out.mono ?_
  rintro e w1 ⟨rfl, hx1⟩
  have X1 := Lib.hid (HX.out.trans hx1)
  have X1' := Lib.hid hx1
  replace k0 := hx1.cellSome k0
  replace k1 := hx1.cellSome k1
  clear hx1
  cases hx : inB x 0 ((q : Int) - 1)
  · rw [hx] at HS
    go_wp2_with fail
    refine (i_within _ _ _ _).mono ?_
    rw [hx]
    rintro e w2 ⟨rfl, rfl⟩
    clear hx
    go_wp2_with fail
    go_ret
    exact ⟨ret_bool (by rw [HS.out]; rfl), X1.out⟩
  rw [hx] at HS
  go_wp2_with fail
  refine (i_within _ _ _ _).mono ?_
  rw [hx]
  rintro e w2 ⟨rfl, rfl⟩
  cases hy : inB y 0 ((q : Int) - 1)
  · rw [hy] at HS
    go_wp2_with fail
    refine (i_within _ _ _ _).mono ?_
    rw [hy]
    rintro e w3 ⟨rfl, rfl⟩
    clear hy
    go_wp2_with fail
    go_ret
    exact ⟨ret_bool (by rw [HS.out]; rfl), X1.out⟩
  rw [hy] at HS
  go_wp2_with fail
  refine (i_within _ _ _ _).mono ?_
  rw [hy]
  rintro e w3 ⟨rfl, rfl⟩
  simp only [inB, Bool.and_eq_true, decide_eq_true_eq] at hx hy
  obtain ⟨i, rfl⟩ : ∃ q : Nat, x = q := ⟨x.toNat, by omega⟩
  obtain ⟨j, rfl⟩ : ∃ q : Nat, y = q := ⟨y.toNat, by omega⟩
  have hi : i < q := by omega
  have hj : j < q := by omega
  have HS2 := Lib.hid (show symOk (q : Int) V i j = symS V i j n by rw [HS.out, HNQ.out]; rfl)
  clear hx hy HS
  have hpi := pow_pos i
  have hpi5 := pow_le5 i (by omega)
  have hpj := pow_pos j
  have hpj5 := pow_le5 j (by omega)
  have e4 := kwrap_pow' i (by omega)
  have e5 := kwrap_pow' j (by omega)
  go_wp2_with fail
  go_loopg [30] n (fun gk ss wr => ∃ s : Nat, Hid (gk + s = n) ∧ ss = .int .i64 (s : Int) ∧ Hid (symS V i j s = true) ∧ Hid (Ext W wr))
  case atStart => exact ⟨0, Lib.hid (by omega), rfl, Lib.hid rfl, X1'⟩
  case round =>
    obtain ⟨g1, h_g1⟩ : ∃ x, x = gk := ⟨_, rfl⟩
    subst h_g1
    obtain ⟨wr, h_wr⟩ : ∃ x, x = wr := ⟨_, rfl⟩
    subst h_wr
    obtain ⟨s, HK, rfl, HT, XR⟩ := hrel
    have q1 := XR.out.cellSome K1.out
    by_cases hlt : s < n
    · have hkd : Ext wr wr.drew := Ext.drew wr
      obtain ⟨vb, vo, rfl, _⟩ := (HI.out.ext XR.out).at hlt
      have r1 := hkd.cellSome q1
      have hbi := bit_test0 (s : Int) i (by omega) (by omega)
      have hbj := bit_test0 (s : Int) j (by omega) (by omega)
      cases hb : bit (s : Int) i
      rotate_left
      · have HT2 := Lib.hid (show symS V i j (s + 1) = true by rw [symS_succ, HT.out, hb]; simp)
        rw [hb] at hbi
        clear hb
        go_wp2_with fail
        refine wp_region_held_drew (S := (fun w' => w'.cell? ⟨w.heap.size, 1, none⟩ = some (.slice (some ⟨vb, vo, none⟩) n cap))) (by kernel_rfl) ?_ (fun hHeld => ?_)
        · exact r1
        refine tk (i := 0) (h := ?_)
        try simp only [Act.put, sA, sB, sC]
        refine tk (i := 1) (h := ?_)
        try simp only [Act.put, sA, sB, sC]
        refine tk (i := 2) (h := ?_)
        try simp only [Act.put, sA, sB, sC]
        refine tk (i := 3) (h := ?_)
        try simp only [Act.put, sA, sB, sC]
        refine tk (i := 4) (h := ?_)
        try simp only [Act.put, sA, sB, sC]
        refine tk (i := 5) (h := ?_)
        try simp only [Act.put, sA, sB, sC]
        refine sk (i := 6) (h := ?_)
        try simp only [Act.put, sA, sB, sC]
        refine sk (i := 7) (h := ?_)
        try simp only [Act.put, sA, sB, sC]
        refine sk (i := 8) (h := ?_)
        try simp only [Act.put, sA, sB, sC]
        refine sk (i := 9) (h := ?_)
        try simp only [Act.put, sA, sB, sC]
        refine sk (i := 10) (h := ?_)
        try simp only [Act.put, sA, sB, sC]
        refine tk (i := 11) (h := ?_)
        try simp only [Act.put, sA, sB, sC]
        refine tk (i := 12) (h := ?_)
        try simp only [Act.put, sA, sB, sC]
        refine sk (i := 13) (h := ?_)
        try simp only [Act.put, sA, sB, sC]
        refine sk (i := 14) (h := ?_)
        try simp only [Act.put, sA, sB, sC]
        refine sk (i := 15) (h := ?_)
        try simp only [Act.put, sA, sB, sC]
        refine sk (i := 16) (h := ?_)
        try simp only [Act.put, sA, sB, sC]
        refine sk (i := 17) (h := ?_)
        try simp only [Act.put, sA, sB, sC]
        refine sk (i := 18) (h := ?_)
        try simp only [Act.put, sA, sB, sC]
        refine sk (i := 19) (h := ?_)
        try simp only [Act.put, sA, sB, sC]
        refine sk (i := 20) (h := ?_)
        try simp only [Act.put, sA, sB, sC]
        refine sk (i := 21) (h := ?_)
        try simp only [Act.put, sA, sB, sC]
        refine sk (i := 22) (h := ?_)
        try simp only [Act.put, sA, sB, sC]
        refine sk (i := 23) (h := ?_)
        try simp only [Act.put, sA, sB, sC]
        refine sk (i := 24) (h := ?_)
        try simp only [Act.put, sA, sB, sC]
        refine sk (i := 25) (h := ?_)
        try simp only [Act.put, sA, sB, sC]
        refine sk (i := 26) (h := ?_)
        try simp only [Act.put, sA, sB, sC]
        refine sk (i := 27) (h := ?_)
        try simp only [Act.put, sA, sB, sC]
        refine sk (i := 28) (h := ?_)
        try simp only [Act.put, sA, sB, sC]
        refine sk (i := 29) (h := ?_)
        try simp only [Act.put, sA, sB, sC]
        refine tk (i := 30) (h := ?_)
        try simp only [Act.put, sA, sB, sC]
        refine wpAnyH_done (by kernel_rfl) ?_ _
        go_wp2_with fail
        go_roundg (g1 - 1)
        case measure => have := HK.out; omega
        case rel => exact ⟨s + 1, Lib.hid (by have := HK.out; omega), by go_num, HT2, Lib.hid (XR.out.trans hkd)⟩
      · cases hb2 : bit (s : Int) j
        rotate_left
        · have HT2 := Lib.hid (show symS V i j (s + 1) = true by rw [symS_succ, HT.out, hb2]; simp)
          rw [hb] at hbi
          rw [hb2] at hbj
          clear hb hb2
          go_wp2_with fail
          refine wp_region_held_drew (S := (fun w' => w'.cell? ⟨w.heap.size, 1, none⟩ = some (.slice (some ⟨vb, vo, none⟩) n cap))) (by kernel_rfl) ?_ (fun hHeld => ?_)
          · exact r1
          refine tk (i := 0) (h := ?_)
          try simp only [Act.put, sA, sB, sC]
          refine tk (i := 1) (h := ?_)
          try simp only [Act.put, sA, sB, sC]
          refine tk (i := 2) (h := ?_)
          try simp only [Act.put, sA, sB, sC]
          refine tk (i := 3) (h := ?_)
          try simp only [Act.put, sA, sB, sC]
          refine tk (i := 4) (h := ?_)
          try simp only [Act.put, sA, sB, sC]
          refine tk (i := 5) (h := ?_)
          try simp only [Act.put, sA, sB, sC]
          refine tk (i := 6) (h := ?_)
          try simp only [Act.put, sA, sB, sC]
          refine tk (i := 7) (h := ?_)
          try simp only [Act.put, sA, sB, sC]
          refine tk (i := 8) (h := ?_)
          try simp only [Act.put, sA, sB, sC]
          refine tk (i := 9) (h := ?_)
          try simp only [Act.put, sA, sB, sC]
          refine tk (i := 10) (h := ?_)
          try simp only [Act.put, sA, sB, sC]
          refine tk (i := 11) (h := ?_)
          try simp only [Act.put, sA, sB, sC]
          refine tk (i := 12) (h := ?_)
          try simp only [Act.put, sA, sB, sC]
          refine sk (i := 13) (h := ?_)
          try simp only [Act.put, sA, sB, sC]
          refine sk (i := 14) (h := ?_)
          try simp only [Act.put, sA, sB, sC]
          refine sk (i := 15) (h := ?_)
          try simp only [Act.put, sA, sB, sC]
          refine sk (i := 16) (h := ?_)
          try simp only [Act.put, sA, sB, sC]
          refine sk (i := 17) (h := ?_)
          try simp only [Act.put, sA, sB, sC]
          refine sk (i := 18) (h := ?_)
          try simp only [Act.put, sA, sB, sC]
          refine sk (i := 19) (h := ?_)
          try simp only [Act.put, sA, sB, sC]
          refine sk (i := 20) (h := ?_)
          try simp only [Act.put, sA, sB, sC]
          refine sk (i := 21) (h := ?_)
          try simp only [Act.put, sA, sB, sC]
          refine sk (i := 22) (h := ?_)
          try simp only [Act.put, sA, sB, sC]
          refine sk (i := 23) (h := ?_)
          try simp only [Act.put, sA, sB, sC]
          refine sk (i := 24) (h := ?_)
          try simp only [Act.put, sA, sB, sC]
          refine sk (i := 25) (h := ?_)
          try simp only [Act.put, sA, sB, sC]
          refine sk (i := 26) (h := ?_)
          try simp only [Act.put, sA, sB, sC]
          refine sk (i := 27) (h := ?_)
          try simp only [Act.put, sA, sB, sC]
          refine sk (i := 28) (h := ?_)
          try simp only [Act.put, sA, sB, sC]
          refine sk (i := 29) (h := ?_)
          try simp only [Act.put, sA, sB, sC]
          refine tk (i := 30) (h := ?_)
          try simp only [Act.put, sA, sB, sC]
          refine wpAnyH_done (by kernel_rfl) ?_ _
          go_wp2_with fail
          go_roundg (g1 - 1)
          case measure => have := HK.out; omega
          case rel => exact ⟨s + 1, Lib.hid (by have := HK.out; omega), by go_num, HT2, Lib.hid (XR.out.trans hkd)⟩
        · have hui := up_lt hq5 (by rw [← HNQ.out]; exact hlt) hi hb
          have huj := up_lt hq5 (by rw [← HNQ.out]; exact hlt) hj hb2
          have hoi := or_bit (s := s) (k := i) (by omega) (by omega) hb
          have hoj := or_bit (s := s) (k := j) (by omega) (by omega) hb2
          obtain ⟨u, hu'⟩ : ∃ u : Nat, u = s + 2 ^ i := ⟨_, rfl⟩
          obtain ⟨v, hv'⟩ : ∃ u : Nat, u = s + 2 ^ j := ⟨_, rfl⟩
          have hu2 : (s : Int) + 2 ^ i = (u : Int) := by rw [hu']; simp
          have hv2 : (s : Int) + 2 ^ j = (v : Int) := by rw [hv']; simp
          have hun : u < n := by rw [HNQ.out, hu']; exact hui
          have hvn : v < n := by rw [HNQ.out, hv']; exact huj
          obtain ⟨vb2, vo2, he2, hcu⟩ := (HI.out.ext (XR.out.trans hkd)).at hun
          simp only [Option.some.injEq, Addr.mk.injEq, and_true] at he2
          obtain ⟨rfl, rfl⟩ := he2
          obtain ⟨vb2, vo2, he2, hcv⟩ := (HI.out.ext (XR.out.trans hkd)).at hvn
          simp only [Option.some.injEq, Addr.mk.injEq, and_true] at he2
          obtain ⟨rfl, rfl⟩ := he2
          obtain ⟨y1, hy1⟩ : ∃ y, y = V[u]?.getD 0 := ⟨_, rfl⟩
          obtain ⟨y2, hy2⟩ : ∃ y, y = V[v]?.getD 0 := ⟨_, rfl⟩
          have HT1 := Lib.hid (show symS V i j (s + 1) = (y1 == y2) by rw [symS_succ, HT.out, hb, hb2, ← hu', ← hv', ← hy1, ← hy2]; rfl)
          rw [← hy1] at hcu
          rw [← hy2] at hcv
          rw [hb] at hbi
          rw [hb2] at hbj
          rw [hu2] at hoi
          rw [hv2] at hoj
          clear hb hb2 hu' hv' hu2 hv2 hui huj hy1 hy2
          by_cases he : y1 = y2
          · have HT2 := Lib.hid (show symS V i j (s + 1) = true by rw [HT1.out, he]; simp)
            have hne : (y1 != y2) = false := by rw [he]; simp
            clear he
            go_wp2_with fail
            refine wp_region_held_drew (S := (fun w' => w'.cell? ⟨w.heap.size, 1, none⟩ = some (.slice (some ⟨vb, vo, none⟩) n cap) ∧ w'.cell? ⟨vb, vo + u, none⟩ = some (.int .i64 y1) ∧ w'.cell? ⟨vb, vo + v, none⟩ = some (.int .i64 y2))) (by kernel_rfl) ?_ (fun hHeld => ?_)
            · exact ⟨r1, hcu, hcv⟩
            refine tk (i := 0) (h := ?_)
            try simp only [Act.put, sA, sB, sC]
            refine tk (i := 1) (h := ?_)
            try simp only [Act.put, sA, sB, sC]
            refine tk (i := 2) (h := ?_)
            try simp only [Act.put, sA, sB, sC]
            refine tk (i := 3) (h := ?_)
            try simp only [Act.put, sA, sB, sC]
            refine tk (i := 4) (h := ?_)
            try simp only [Act.put, sA, sB, sC]
            refine tk (i := 5) (h := ?_)
            try simp only [Act.put, sA, sB, sC]
            refine tk (i := 6) (h := ?_)
            try simp only [Act.put, sA, sB, sC]
            refine tk (i := 7) (h := ?_)
            try simp only [Act.put, sA, sB, sC]
            refine tk (i := 8) (h := ?_)
            try simp only [Act.put, sA, sB, sC]
            refine tk (i := 9) (h := ?_)
            try simp only [Act.put, sA, sB, sC]
            refine tk (i := 10) (h := ?_)
            try simp only [Act.put, sA, sB, sC]
            refine tk (i := 11) (h := ?_)
            try simp only [Act.put, sA, sB, sC]
            refine tk (i := 12) (h := ?_)
            try simp only [Act.put, sA, sB, sC]
            refine tk (i := 13) (h := ?_)
            try simp only [Act.put, sA, sB, sC]
            refine tk (i := 14) (h := ?_)
            try simp only [Act.put, sA, sB, sC]
            refine tk (i := 15) (h := ?_)
            try simp only [Act.put, sA, sB, sC]
            refine tk (i := 16) (h := ?_)
            try simp only [Act.put, sA, sB, sC]
            refine tk (i := 17) (h := ?_)
            try simp only [Act.put, sA, sB, sC]
            refine tk (i := 18) (h := ?_)
            try simp only [Act.put, sA, sB, sC]
            refine tk (i := 19) (h := ?_)
            try simp only [Act.put, sA, sB, sC]
            refine tk (i := 20) (h := ?_)
            try simp only [Act.put, sA, sB, sC]
            refine tk (i := 21) (h := ?_)
            try simp only [Act.put, sA, sB, sC]
            refine tk (i := 22) (h := ?_)
            try simp only [Act.put, sA, sB, sC]
            refine tk (i := 23) (h := ?_)
            try simp only [Act.put, sA, sB, sC]
            refine tk (i := 24) (h := ?_)
            try simp only [Act.put, sA, sB, sC]
            refine tk (i := 25) (h := ?_)
            try simp only [Act.put, sA, sB, sC]
            refine tk (i := 26) (h := ?_)
            try simp only [Act.put, sA, sB, sC]
            refine tk (i := 27) (h := ?_)
            try simp only [Act.put, sA, sB, sC]
            refine tk (i := 28) (h := ?_)
            try simp only [Act.put, sA, sB, sC]
            refine tk (i := 29) (h := ?_)
            try simp only [Act.put, sA, sB, sC]
            refine tk (i := 30) (h := ?_)
            try simp only [Act.put, sA, sB, sC]
            refine wpAnyH_done (by kernel_rfl) ?_ _
            go_wp2_with fail
            go_roundg (g1 - 1)
            case measure => have := HK.out; omega
            case rel => exact ⟨s + 1, Lib.hid (by have := HK.out; omega), by go_num, HT2, Lib.hid (XR.out.trans hkd)⟩
          · have HB := Lib.hid (show symS V i j n = false from symS_bad (m := s) (by rw [HT1.out]; simp [he]) hlt)
            have hne : (y1 != y2) = true := by simp [he]
            clear he
            go_wp2_with fail
            refine wp_region_held_drew (S := (fun w' => w'.cell? ⟨w.heap.size, 1, none⟩ = some (.slice (some ⟨vb, vo, none⟩) n cap) ∧ w'.cell? ⟨vb, vo + u, none⟩ = some (.int .i64 y1) ∧ w'.cell? ⟨vb, vo + v, none⟩ = some (.int .i64 y2))) (by kernel_rfl) ?_ (fun hHeld => ?_)
            · exact ⟨r1, hcu, hcv⟩
            refine tk (i := 0) (h := ?_)
            try simp only [Act.put, sA, sB, sC]
            refine tk (i := 1) (h := ?_)
            try simp only [Act.put, sA, sB, sC]
            refine tk (i := 2) (h := ?_)
            try simp only [Act.put, sA, sB, sC]
            refine tk (i := 3) (h := ?_)
            try simp only [Act.put, sA, sB, sC]
            refine tk (i := 4) (h := ?_)
            try simp only [Act.put, sA, sB, sC]
            refine tk (i := 5) (h := ?_)
            try simp only [Act.put, sA, sB, sC]
            refine tk (i := 6) (h := ?_)
            try simp only [Act.put, sA, sB, sC]
            refine tk (i := 7) (h := ?_)
            try simp only [Act.put, sA, sB, sC]
            refine tk (i := 8) (h := ?_)
            try simp only [Act.put, sA, sB, sC]
            refine tk (i := 9) (h := ?_)
            try simp only [Act.put, sA, sB, sC]
            refine tk (i := 10) (h := ?_)
            try simp only [Act.put, sA, sB, sC]
            refine tk (i := 11) (h := ?_)
            try simp only [Act.put, sA, sB, sC]
            refine tk (i := 12) (h := ?_)
            try simp only [Act.put, sA, sB, sC]
            refine tk (i := 13) (h := ?_)
            try simp only [Act.put, sA, sB, sC]
            refine tk (i := 14) (h := ?_)
            try simp only [Act.put, sA, sB, sC]
            refine tk (i := 15) (h := ?_)
            try simp only [Act.put, sA, sB, sC]
            refine tk (i := 16) (h := ?_)
            try simp only [Act.put, sA, sB, sC]
            refine tk (i := 17) (h := ?_)
            try simp only [Act.put, sA, sB, sC]
            refine tk (i := 18) (h := ?_)
            try simp only [Act.put, sA, sB, sC]
            refine tk (i := 19) (h := ?_)
            try simp only [Act.put, sA, sB, sC]
            refine tk (i := 20) (h := ?_)
            try simp only [Act.put, sA, sB, sC]
            refine tk (i := 21) (h := ?_)
            try simp only [Act.put, sA, sB, sC]
            refine tk (i := 22) (h := ?_)
            try simp only [Act.put, sA, sB, sC]
            refine tk (i := 23) (h := ?_)
            try simp only [Act.put, sA, sB, sC]
            refine tk (i := 24) (h := ?_)
            try simp only [Act.put, sA, sB, sC]
            refine tk (i := 25) (h := ?_)
            try simp only [Act.put, sA, sB, sC]
            refine tk (i := 26) (h := ?_)
            try simp only [Act.put, sA, sB, sC]
            refine tk (i := 27) (h := ?_)
            try simp only [Act.put, sA, sB, sC]
            refine tk (i := 28) (h := ?_)
            try simp only [Act.put, sA, sB, sC]
            refine tk (i := 29) (h := ?_)
            try simp only [Act.put, sA, sB, sC]
            refine tk (i := 30) (h := ?_)
            try simp only [Act.put, sA, sB, sC]
            refine wpAnyH_done (by kernel_rfl) ?_ _
            go_wp2_with fail
            go_ret
            exact ⟨ret_bool (by rw [HS2.out, HB.out]), (HX.out.trans XR.out).trans hkd⟩
    · have hsn : s = n := by have := HK.out; omega
      subst hsn
      go_wp2_with fail
      go_ret
      exact ⟨ret_bool (by rw [HS2.out, HT.out]), HX.out.trans XR.out⟩
set_option maxHeartbeats 8000000 in
theorem s_AreSymmetric {w : World} {p x y : Int} {a : Option Addr} {n cap : Nat} {V : List Int} (h : Ints w a n cap V) :
    Calls Try.prog 17 #[pair p a n cap, .int .i64 x, .int .i64 y] w fun e w' => e = .returned (.bool (symOk p V x y)) ∧ Ext w w' := by
  obtain ⟨W, hW⟩ : ∃ W, W = w.alloc (.cells #[.int .i64 p, .slice a n cap] 26) := ⟨_, rfl⟩
  have hX : Ext w W := by rw [hW]; exact Ext.alloc _ _
  have k0 : W.cell? ⟨w.heap.size, 0, none⟩ = some (.int .i64 p) := by rw [hW]; simp
  have k1 : W.cell? ⟨w.heap.size, 1, none⟩ = some (.slice a n cap) := by rw [hW]; simp
  have HI := Lib.hid (h.ext hX)
  have K1 := Lib.hid k1
  have HX := Lib.hid hX
  have HL := Lib.hid h.hlen
  have hcap := h.hcap
  have hmax := h.hmax
  have HV := Lib.hid (s_IsValidGame (p := p) HI.out)
  have HS := Lib.hid (show symOk p V x y = (gameOk p V && (inB x 0 (p - 1) && (inB y 0 (p - 1) && symS V x.toNat y.toNat (cN p.toNat)))) from rfl)
  clear h hX
  go_enter Try.func17, Try.ntmps17
  go_upto_region 1 with fail
  rw [← hW]
  clear hW
  cases hg : gameOk p V
  · rw [hg] at HV HS
    clear hg
    go_wp2_with fail
    refine HV.out.mono ?_
    rintro e w1 ⟨rfl, hx1⟩
    have X1 := Lib.hid (HX.out.trans hx1)
    clear hx1
    go_wp2_with fail
    go_ret
    exact ⟨ret_bool (by rw [HS.out]; rfl), X1.out⟩
  rw [hg] at HV HS
  obtain ⟨q, rfl, hq1, hq5, hVl, _, hVb⟩ := gameOk_len hg
  have hc := cN_le q hq5
  have hnq : n = cN q := by have := HL.out; omega
  have HNQ := Lib.hid hnq
  have hn32 : n ≤ 32 := by omega
  have hw1 : IntKind.i64.wrap ((q : Int) - 1) = (q : Int) - 1 := by rw [IntKind.wrap_i64]; omega
  clear hg hVl hVb hnq
  go_wp2_with fail
  refine HV.out.mono ?_
  rintro e w1 ⟨rfl, hx1⟩
  have X1 := Lib.hid (HX.out.trans hx1)
  have X1' := Lib.hid hx1
  replace k0 := hx1.cellSome k0
  replace k1 := hx1.cellSome k1
  clear hx1
  cases hx : inB x 0 ((q : Int) - 1)
  · rw [hx] at HS
    go_wp2_with fail
    refine (s_l1In _ _ _ _).mono ?_
    rw [hx]
    rintro e w2 ⟨rfl, rfl⟩
    clear hx
    go_wp2_with fail
    go_ret
    exact ⟨ret_bool (by rw [HS.out]; rfl), X1.out⟩
  rw [hx] at HS
  go_wp2_with fail
  refine (s_l1In _ _ _ _).mono ?_
  rw [hx]
  rintro e w2 ⟨rfl, rfl⟩
  cases hy : inB y 0 ((q : Int) - 1)
  · rw [hy] at HS
    go_wp2_with fail
    refine (s_l1In _ _ _ _).mono ?_
    rw [hy]
    rintro e w3 ⟨rfl, rfl⟩
    clear hy
    go_wp2_with fail
    go_ret
    exact ⟨ret_bool (by rw [HS.out]; rfl), X1.out⟩
  rw [hy] at HS
  go_wp2_with fail
  refine (s_l1In _ _ _ _).mono ?_
  rw [hy]
  rintro e w3 ⟨rfl, rfl⟩
  simp only [inB, Bool.and_eq_true, decide_eq_true_eq] at hx hy
  obtain ⟨i, rfl⟩ : ∃ q : Nat, x = q := ⟨x.toNat, by omega⟩
  obtain ⟨j, rfl⟩ : ∃ q : Nat, y = q := ⟨y.toNat, by omega⟩
  have hi : i < q := by omega
  have hj : j < q := by omega
  have HS2 := Lib.hid (show symOk (q : Int) V i j = symS V i j n by rw [HS.out, HNQ.out]; rfl)
  clear hx hy HS
  have hpi := pow_pos i
  have hpi5 := pow_le5 i (by omega)
  have hpj := pow_pos j
  have hpj5 := pow_le5 j (by omega)
  have HCI := Lib.hid (s_l2B i (by omega))
  have HCJ := Lib.hid (s_l2B j (by omega))
  go_wp2_with fail
  go_loopg [7] n (fun gk ss wr => ∃ s : Nat, Hid (gk + s = n) ∧ ss = .int .i64 (s : Int) ∧ Hid (symS V i j s = true) ∧ Hid (Ext W wr))
  case atStart => exact ⟨0, Lib.hid (by omega), rfl, Lib.hid rfl, X1'⟩
  case round =>
    obtain ⟨g1, h_g1⟩ : ∃ x, x = gk := ⟨_, rfl⟩
    subst h_g1
    obtain ⟨wr, h_wr⟩ : ∃ x, x = wr := ⟨_, rfl⟩
    subst h_wr
    obtain ⟨s, HK, rfl, HT, XR⟩ := hrel
    have q1 := XR.out.cellSome K1.out
    by_cases hlt : s < n
    · have hkd : Ext wr wr.drew := Ext.drew wr
      obtain ⟨vb, vo, rfl, _⟩ := (HI.out.ext XR.out).at hlt
      have r1 := hkd.cellSome q1
      have HHI := Lib.hid (hasP_bit (s : Int) i (by omega) (by omega))
      have HHJ := Lib.hid (hasP_bit (s : Int) j (by omega) (by omega))
      cases hb : bit (s : Int) i
      rotate_left
      · have HT2 := Lib.hid (show symS V i j (s + 1) = true by rw [symS_succ, HT.out, hb]; simp)
        rw [hb] at HHI
        clear hb
        go_wp2_with fail
        refine wp_region_held_drew (S := (fun w' => w'.cell? ⟨w.heap.size, 1, none⟩ = some (.slice (some ⟨vb, vo, none⟩) n cap))) (by kernel_rfl) ?_ (fun hHeld => ?_)
        · exact r1
        refine tk (i := 0) (h := ?_)
        try simp only [Act.put, sA, sB, sC]
        refine tk (i := 1) (h := ?_)
        try simp only [Act.put, sA, sB, sC]
        refine rd (i := 2) (h := fun K hK => ?_)
        go_simp
        refine (s_HasPlayer (s : Int) (i : Int) _ (by omega)).mono ?_; rw [HHI.out]; rintro e w5 ⟨rfl, rfl⟩
        go_wp2_with fail
        refine hK.out _ _ ?_ (fun hHeld => ?_)
        · exact hHeld
        clear hK K
        try simp only [Act.put, sA, sB, sC]
        refine tk (i := 3) (h := ?_)
        try simp only [Act.put, sA, sB, sC]
        refine tk (i := 4) (h := ?_)
        try simp only [Act.put, sA, sB, sC]
        refine sk (i := 5) (h := ?_)
        try simp only [Act.put, sA, sB, sC]
        refine sk (i := 6) (h := ?_)
        try simp only [Act.put, sA, sB, sC]
        refine sk (i := 7) (h := ?_)
        try simp only [Act.put, sA, sB, sC]
        refine sk (i := 8) (h := ?_)
        try simp only [Act.put, sA, sB, sC]
        refine tk (i := 9) (h := ?_)
        try simp only [Act.put, sA, sB, sC]
        refine tk (i := 10) (h := ?_)
        try simp only [Act.put, sA, sB, sC]
        refine sk (i := 11) (h := ?_)
        try simp only [Act.put, sA, sB, sC]
        refine sk (i := 12) (h := ?_)
        try simp only [Act.put, sA, sB, sC]
        refine sk (i := 13) (h := ?_)
        try simp only [Act.put, sA, sB, sC]
        refine sk (i := 14) (h := ?_)
        try simp only [Act.put, sA, sB, sC]
        refine sk (i := 15) (h := ?_)
        try simp only [Act.put, sA, sB, sC]
        refine sk (i := 16) (h := ?_)
        try simp only [Act.put, sA, sB, sC]
        refine sk (i := 17) (h := ?_)
        try simp only [Act.put, sA, sB, sC]
        refine sk (i := 18) (h := ?_)
        try simp only [Act.put, sA, sB, sC]
        refine sk (i := 19) (h := ?_)
        try simp only [Act.put, sA, sB, sC]
        refine sk (i := 20) (h := ?_)
        try simp only [Act.put, sA, sB, sC]
        refine sk (i := 21) (h := ?_)
        try simp only [Act.put, sA, sB, sC]
        refine sk (i := 22) (h := ?_)
        try simp only [Act.put, sA, sB, sC]
        refine sk (i := 23) (h := ?_)
        try simp only [Act.put, sA, sB, sC]
        refine sk (i := 24) (h := ?_)
        try simp only [Act.put, sA, sB, sC]
        refine sk (i := 25) (h := ?_)
        try simp only [Act.put, sA, sB, sC]
        refine sk (i := 26) (h := ?_)
        try simp only [Act.put, sA, sB, sC]
        refine sk (i := 27) (h := ?_)
        try simp only [Act.put, sA, sB, sC]
        refine tk (i := 28) (h := ?_)
        try simp only [Act.put, sA, sB, sC]
        refine wpAnyH_done (by kernel_rfl) ?_ _
        go_wp2_with fail
        go_roundg (g1 - 1)
        case measure => have := HK.out; omega
        case rel => exact ⟨s + 1, Lib.hid (by have := HK.out; omega), by go_num, HT2, Lib.hid (XR.out.trans hkd)⟩
      · cases hb2 : bit (s : Int) j
        rotate_left
        · have HT2 := Lib.hid (show symS V i j (s + 1) = true by rw [symS_succ, HT.out, hb2]; simp)
          rw [hb] at HHI
          rw [hb2] at HHJ
          clear hb hb2
          go_wp2_with fail
          refine wp_region_held_drew (S := (fun w' => w'.cell? ⟨w.heap.size, 1, none⟩ = some (.slice (some ⟨vb, vo, none⟩) n cap))) (by kernel_rfl) ?_ (fun hHeld => ?_)
          · exact r1
          refine tk (i := 0) (h := ?_)
          try simp only [Act.put, sA, sB, sC]
          refine tk (i := 1) (h := ?_)
          try simp only [Act.put, sA, sB, sC]
          refine rd (i := 2) (h := fun K hK => ?_)
          go_simp
          refine (s_HasPlayer (s : Int) (i : Int) _ (by omega)).mono ?_; rw [HHI.out]; rintro e w5 ⟨rfl, rfl⟩
          go_wp2_with fail
          refine hK.out _ _ ?_ (fun hHeld => ?_)
          · exact hHeld
          clear hK K
          try simp only [Act.put, sA, sB, sC]
          refine tk (i := 3) (h := ?_)
          try simp only [Act.put, sA, sB, sC]
          refine tk (i := 4) (h := ?_)
          try simp only [Act.put, sA, sB, sC]
          refine tk (i := 5) (h := ?_)
          try simp only [Act.put, sA, sB, sC]
          refine tk (i := 6) (h := ?_)
          try simp only [Act.put, sA, sB, sC]
          refine rd (i := 7) (h := fun K hK => ?_)
          go_simp
          refine (s_HasPlayer (s : Int) (j : Int) _ (by omega)).mono ?_; rw [HHJ.out]; rintro e w6 ⟨rfl, rfl⟩
          go_wp2_with fail
          refine hK.out _ _ ?_ (fun hHeld => ?_)
          · exact hHeld
          clear hK K
          try simp only [Act.put, sA, sB, sC]
          refine tk (i := 8) (h := ?_)
          try simp only [Act.put, sA, sB, sC]
          refine tk (i := 9) (h := ?_)
          try simp only [Act.put, sA, sB, sC]
          refine tk (i := 10) (h := ?_)
          try simp only [Act.put, sA, sB, sC]
          refine sk (i := 11) (h := ?_)
          try simp only [Act.put, sA, sB, sC]
          refine sk (i := 12) (h := ?_)
          try simp only [Act.put, sA, sB, sC]
          refine sk (i := 13) (h := ?_)
          try simp only [Act.put, sA, sB, sC]
          refine sk (i := 14) (h := ?_)
          try simp only [Act.put, sA, sB, sC]
          refine sk (i := 15) (h := ?_)
          try simp only [Act.put, sA, sB, sC]
          refine sk (i := 16) (h := ?_)
          try simp only [Act.put, sA, sB, sC]
          refine sk (i := 17) (h := ?_)
          try simp only [Act.put, sA, sB, sC]
          refine sk (i := 18) (h := ?_)
          try simp only [Act.put, sA, sB, sC]
          refine sk (i := 19) (h := ?_)
          try simp only [Act.put, sA, sB, sC]
          refine sk (i := 20) (h := ?_)
          try simp only [Act.put, sA, sB, sC]
          refine sk (i := 21) (h := ?_)
          try simp only [Act.put, sA, sB, sC]
          refine sk (i := 22) (h := ?_)
          try simp only [Act.put, sA, sB, sC]
          refine sk (i := 23) (h := ?_)
          try simp only [Act.put, sA, sB, sC]
          refine sk (i := 24) (h := ?_)
          try simp only [Act.put, sA, sB, sC]
          refine sk (i := 25) (h := ?_)
          try simp only [Act.put, sA, sB, sC]
          refine sk (i := 26) (h := ?_)
          try simp only [Act.put, sA, sB, sC]
          refine sk (i := 27) (h := ?_)
          try simp only [Act.put, sA, sB, sC]
          refine tk (i := 28) (h := ?_)
          try simp only [Act.put, sA, sB, sC]
          refine wpAnyH_done (by kernel_rfl) ?_ _
          go_wp2_with fail
          go_roundg (g1 - 1)
          case measure => have := HK.out; omega
          case rel => exact ⟨s + 1, Lib.hid (by have := HK.out; omega), by go_num, HT2, Lib.hid (XR.out.trans hkd)⟩
        · have hui := up_lt hq5 (by rw [← HNQ.out]; exact hlt) hi hb
          have huj := up_lt hq5 (by rw [← HNQ.out]; exact hlt) hj hb2
          obtain ⟨u, hu'⟩ : ∃ u : Nat, u = s + 2 ^ i := ⟨_, rfl⟩
          obtain ⟨v, hv'⟩ : ∃ u : Nat, u = s + 2 ^ j := ⟨_, rfl⟩
          have hu2 : (s : Int) + 2 ^ i = (u : Int) := by rw [hu']; simp
          have hv2 : (s : Int) + 2 ^ j = (v : Int) := by rw [hv']; simp
          have hun : u < n := by rw [HNQ.out, hu']; exact hui
          have hvn : v < n := by rw [HNQ.out, hv']; exact huj
          obtain ⟨vb2, vo2, he2, hcu⟩ := (HI.out.ext (XR.out.trans hkd)).at hun
          simp only [Option.some.injEq, Addr.mk.injEq, and_true] at he2
          obtain ⟨rfl, rfl⟩ := he2
          obtain ⟨vb2, vo2, he2, hcv⟩ := (HI.out.ext (XR.out.trans hkd)).at hvn
          simp only [Option.some.injEq, Addr.mk.injEq, and_true] at he2
          obtain ⟨rfl, rfl⟩ := he2
          obtain ⟨y1, hy1⟩ : ∃ y, y = V[u]?.getD 0 := ⟨_, rfl⟩
          obtain ⟨y2, hy2⟩ : ∃ y, y = V[v]?.getD 0 := ⟨_, rfl⟩
          have HT1 := Lib.hid (show symS V i j (s + 1) = (y1 == y2) by rw [symS_succ, HT.out, hb, hb2, ← hu', ← hv', ← hy1, ← hy2]; rfl)
          rw [← hy1] at hcu
          rw [← hy2] at hcv
          rw [hb] at HHI
          rw [hb2] at HHJ
          have e1 : IntKind.i64.wrap ((s : Int) + 2 ^ i) = (u : Int) := by rw [hu2, IntKind.wrap_i64]; omega
          have e2 : IntKind.i64.wrap ((s : Int) + 2 ^ j) = (v : Int) := by rw [hv2, IntKind.wrap_i64]; omega
          clear hb hb2 hu' hv' hu2 hv2 hui huj hy1 hy2
          by_cases he : y1 = y2
          · have HT2 := Lib.hid (show symS V i j (s + 1) = true by rw [HT1.out, he]; simp)
            have hne : (y1 != y2) = false := by rw [he]; simp
            clear he
            go_wp2_with fail
            refine wp_region_held_drew (S := (fun w' => w'.cell? ⟨w.heap.size, 1, none⟩ = some (.slice (some ⟨vb, vo, none⟩) n cap) ∧ w'.cell? ⟨vb, vo + u, none⟩ = some (.int .i64 y1) ∧ w'.cell? ⟨vb, vo + v, none⟩ = some (.int .i64 y2))) (by kernel_rfl) ?_ (fun hHeld => ?_)
            · exact ⟨r1, hcu, hcv⟩
            refine tk (i := 0) (h := ?_)
            try simp only [Act.put, sA, sB, sC]
            refine tk (i := 1) (h := ?_)
            try simp only [Act.put, sA, sB, sC]
            refine rd (i := 2) (h := fun K hK => ?_)
            go_simp
            refine (s_HasPlayer (s : Int) (i : Int) _ (by omega)).mono ?_; rw [HHI.out]; rintro e w5 ⟨rfl, rfl⟩
            go_wp2_with fail
            refine hK.out _ _ ?_ (fun hHeld => ?_)
            · exact hHeld
            clear hK K
            try simp only [Act.put, sA, sB, sC]
            refine tk (i := 3) (h := ?_)
            try simp only [Act.put, sA, sB, sC]
            refine tk (i := 4) (h := ?_)
            try simp only [Act.put, sA, sB, sC]
            refine tk (i := 5) (h := ?_)
            try simp only [Act.put, sA, sB, sC]
            refine tk (i := 6) (h := ?_)
            try simp only [Act.put, sA, sB, sC]
            refine rd (i := 7) (h := fun K hK => ?_)
            go_simp
            refine (s_HasPlayer (s : Int) (j : Int) _ (by omega)).mono ?_; rw [HHJ.out]; rintro e w6 ⟨rfl, rfl⟩
            go_wp2_with fail
            refine hK.out _ _ ?_ (fun hHeld => ?_)
            · exact hHeld
            clear hK K
            try simp only [Act.put, sA, sB, sC]
            refine tk (i := 8) (h := ?_)
            try simp only [Act.put, sA, sB, sC]
            refine tk (i := 9) (h := ?_)
            try simp only [Act.put, sA, sB, sC]
            refine tk (i := 10) (h := ?_)
            try simp only [Act.put, sA, sB, sC]
            refine tk (i := 11) (h := ?_)
            try simp only [Act.put, sA, sB, sC]
            refine tk (i := 12) (h := ?_)
            try simp only [Act.put, sA, sB, sC]
            refine tk (i := 13) (h := ?_)
            try simp only [Act.put, sA, sB, sC]
            refine tk (i := 14) (h := ?_)
            try simp only [Act.put, sA, sB, sC]
            refine tk (i := 19) (h := ?_)
            try simp only [Act.put, sA, sB, sC]
            refine tk (i := 20) (h := ?_)
            try simp only [Act.put, sA, sB, sC]
            refine tk (i := 21) (h := ?_)
            try simp only [Act.put, sA, sB, sC]
            refine tk (i := 22) (h := ?_)
            try simp only [Act.put, sA, sB, sC]
            refine rd (i := 15) (h := fun K hK => ?_)
            go_simp
            refine (HCI.out _).mono ?_; rintro e w7 ⟨rfl, rfl⟩
            go_wp2_with fail
            refine hK.out _ _ ?_ (fun hHeld => ?_)
            · exact hHeld
            clear hK K
            try simp only [Act.put, sA, sB, sC]
            refine tk (i := 16) (h := ?_)
            try simp only [Act.put, sA, sB, sC]
            refine tk (i := 17) (h := ?_)
            try simp only [Act.put, sA, sB, sC]
            refine tk (i := 18) (h := ?_)
            try simp only [Act.put, sA, sB, sC]
            refine rd (i := 23) (h := fun K hK => ?_)
            go_simp
            refine (HCJ.out _).mono ?_; rintro e w8 ⟨rfl, rfl⟩
            go_wp2_with fail
            refine hK.out _ _ ?_ (fun hHeld => ?_)
            · exact hHeld
            clear hK K
            try simp only [Act.put, sA, sB, sC]
            refine tk (i := 24) (h := ?_)
            try simp only [Act.put, sA, sB, sC]
            refine tk (i := 25) (h := ?_)
            try simp only [Act.put, sA, sB, sC]
            refine tk (i := 26) (h := ?_)
            try simp only [Act.put, sA, sB, sC]
            refine tk (i := 27) (h := ?_)
            try simp only [Act.put, sA, sB, sC]
            refine tk (i := 28) (h := ?_)
            try simp only [Act.put, sA, sB, sC]
            refine wpAnyH_done (by kernel_rfl) ?_ _
            go_wp2_with fail
            go_roundg (g1 - 1)
            case measure => have := HK.out; omega
            case rel => exact ⟨s + 1, Lib.hid (by have := HK.out; omega), by go_num, HT2, Lib.hid (XR.out.trans hkd)⟩
          · have HB := Lib.hid (show symS V i j n = false from symS_bad (m := s) (by rw [HT1.out]; simp [he]) hlt)
            have hne : (y1 != y2) = true := by simp [he]
            clear he
            go_wp2_with fail
            refine wp_region_held_drew (S := (fun w' => w'.cell? ⟨w.heap.size, 1, none⟩ = some (.slice (some ⟨vb, vo, none⟩) n cap) ∧ w'.cell? ⟨vb, vo + u, none⟩ = some (.int .i64 y1) ∧ w'.cell? ⟨vb, vo + v, none⟩ = some (.int .i64 y2))) (by kernel_rfl) ?_ (fun hHeld => ?_)
            · exact ⟨r1, hcu, hcv⟩
            refine tk (i := 0) (h := ?_)
            try simp only [Act.put, sA, sB, sC]
            refine tk (i := 1) (h := ?_)
            try simp only [Act.put, sA, sB, sC]
            refine rd (i := 2) (h := fun K hK => ?_)
            go_simp
            refine (s_HasPlayer (s : Int) (i : Int) _ (by omega)).mono ?_; rw [HHI.out]; rintro e w5 ⟨rfl, rfl⟩
            go_wp2_with fail
            refine hK.out _ _ ?_ (fun hHeld => ?_)
            · exact hHeld
            clear hK K
            try simp only [Act.put, sA, sB, sC]
            refine tk (i := 3) (h := ?_)
            try simp only [Act.put, sA, sB, sC]
            refine tk (i := 4) (h := ?_)
            try simp only [Act.put, sA, sB, sC]
            refine tk (i := 5) (h := ?_)
            try simp only [Act.put, sA, sB, sC]
            refine tk (i := 6) (h := ?_)
            try simp only [Act.put, sA, sB, sC]
            refine rd (i := 7) (h := fun K hK => ?_)
            go_simp
            refine (s_HasPlayer (s : Int) (j : Int) _ (by omega)).mono ?_; rw [HHJ.out]; rintro e w6 ⟨rfl, rfl⟩
            go_wp2_with fail
            refine hK.out _ _ ?_ (fun hHeld => ?_)
            · exact hHeld
            clear hK K
            try simp only [Act.put, sA, sB, sC]
            refine tk (i := 8) (h := ?_)
            try simp only [Act.put, sA, sB, sC]
            refine tk (i := 9) (h := ?_)
            try simp only [Act.put, sA, sB, sC]
            refine tk (i := 10) (h := ?_)
            try simp only [Act.put, sA, sB, sC]
            refine tk (i := 11) (h := ?_)
            try simp only [Act.put, sA, sB, sC]
            refine tk (i := 12) (h := ?_)
            try simp only [Act.put, sA, sB, sC]
            refine tk (i := 13) (h := ?_)
            try simp only [Act.put, sA, sB, sC]
            refine tk (i := 14) (h := ?_)
            try simp only [Act.put, sA, sB, sC]
            refine tk (i := 19) (h := ?_)
            try simp only [Act.put, sA, sB, sC]
            refine tk (i := 20) (h := ?_)
            try simp only [Act.put, sA, sB, sC]
            refine tk (i := 21) (h := ?_)
            try simp only [Act.put, sA, sB, sC]
            refine tk (i := 22) (h := ?_)
            try simp only [Act.put, sA, sB, sC]
            refine rd (i := 15) (h := fun K hK => ?_)
            go_simp
            refine (HCI.out _).mono ?_; rintro e w7 ⟨rfl, rfl⟩
            go_wp2_with fail
            refine hK.out _ _ ?_ (fun hHeld => ?_)
            · exact hHeld
            clear hK K
            try simp only [Act.put, sA, sB, sC]
            refine tk (i := 16) (h := ?_)
            try simp only [Act.put, sA, sB, sC]
            refine tk (i := 17) (h := ?_)
            try simp only [Act.put, sA, sB, sC]
            refine tk (i := 18) (h := ?_)
            try simp only [Act.put, sA, sB, sC]
            refine rd (i := 23) (h := fun K hK => ?_)
            go_simp
            refine (HCJ.out _).mono ?_; rintro e w8 ⟨rfl, rfl⟩
            go_wp2_with fail
            refine hK.out _ _ ?_ (fun hHeld => ?_)
            · exact hHeld
            clear hK K
            try simp only [Act.put, sA, sB, sC]
            refine tk (i := 24) (h := ?_)
            try simp only [Act.put, sA, sB, sC]
            refine tk (i := 25) (h := ?_)
            try simp only [Act.put, sA, sB, sC]
            refine tk (i := 26) (h := ?_)
            try simp only [Act.put, sA, sB, sC]
            refine tk (i := 27) (h := ?_)
            try simp only [Act.put, sA, sB, sC]
            refine tk (i := 28) (h := ?_)
            try simp only [Act.put, sA, sB, sC]
            refine wpAnyH_done (by kernel_rfl) ?_ _
            go_wp2_with fail
            go_ret
            exact ⟨ret_bool (by rw [HS2.out, HB.out]), (HX.out.trans XR.out).trans hkd⟩
    · have hsn : s = n := by have := HK.out; omega
      subst hsn
      go_wp2_with fail
      go_ret
      exact ⟨ret_bool (by rw [HS2.out, HT.out]), HX.out.trans XR.out⟩
end Go.Proofs.Ytgohdmnbnhehnaa
namespace Go.Proofs.Ytgohdmnbnhehnaa
set_option linter.unusedVariables false
open Go.RowKit
set_option maxHeartbeats 400000 in
theorem l_sameInts {w : World} {a a' : Option Addr} {n n' cap cap' : Nat} {l l' : List Int} (h : Ints w a n cap l) (h' : Ints w a' n' cap' l') :
    Calls Try.prog 13 #[.slice a n cap, .slice a' n' cap'] w fun e w' => e = .returned (.bool (decide (l = l'))) ∧ Drew w w' := by
  have hn := h.hcap
  have hm := h.hmax
  have hn' := h'.hcap
  have hm' := h'.hmax
  have HL := Lib.hid h.hlen
  have HL' := Lib.hid h'.hlen
  by_cases hne : n = n'
  · subst hne
    go_enter Try.func13, Try.ntmps13
    go_wp2
    go_loopw [5] (fun i wr => ∃ k : Nat, k ≤ n ∧ i = .int .i64 k ∧ l.take k = l'.take k ∧ Drew w wr) (fun i _ => n - (intOf i).toNat)
    case atStart => exact ⟨0, Nat.zero_le _, rfl, rfl, Drew.refl _⟩
    case round =>
      obtain ⟨k, hk, rfl, htk, hx⟩ := hrel
      have HT := Lib.hid htk
      clear htk
      by_cases hlt : k < n
      · have h1 := h.ext hx.ext
        have h1' := h'.ext hx.ext
        obtain ⟨b, off, rfl, hc⟩ := h1.at hlt
        obtain ⟨b', off', rfl, hc'⟩ := h1'.at hlt
        by_cases hq : l[k]?.getD 0 = l'[k]?.getD 0
        · have HQ := Lib.hid hq
          have hq1 : (l[k]?.getD 0 != l'[k]?.getD 0) = false := by simp [hq]
          clear hq
          go_wp2
          go_quiet (fail)
          go_wp2
          go_roundw
          case rel => exact ⟨k + 1, by omega, by go_num, by rw [take_snoc (by have := HL.out; omega), take_snoc (by have := HL'.out; omega), HT.out, HQ.out], hx.trans ⟨_, rfl⟩⟩
          case measure => simp [intOf]; omega
        · have HQ := Lib.hid hq
          have hq1 : (l[k]?.getD 0 != l'[k]?.getD 0) = true := by simp [hq]
          clear hq
          go_wp2
          go_quiet (fail)
          go_wp2
          go_ret
          refine ⟨ret_bool ?_, hx.trans ⟨_, rfl⟩⟩
          symm
          rw [decide_eq_false_iff_not]
          intro e
          exact HQ.out (by rw [e])
      · go_wp2
        go_ret
        refine ⟨ret_bool ?_, hx⟩
        symm
        rw [decide_eq_true_eq]
        have := HT.out
        rwa [List.take_of_length_le (by have := HL.out; omega), List.take_of_length_le (by have := HL'.out; omega)] at this
  · have hne' : ((n : Int) != (n' : Int)) = true := by simp; omega
    have HN := Lib.hid hne
    clear hne
    go_enter Try.func13, Try.ntmps13
    go_wp2
    go_ret
    refine ⟨ret_bool ?_, Drew.refl _⟩
    symm
    rw [decide_eq_false_iff_not]
    intro e
    exact HN.out (by rw [← HL.out, ← HL'.out, e])
end Go.Proofs.Ytgohdmnbnhehnaa
namespace Go.Proofs.Ytgohdmnbnhehnaa
set_option linter.unusedVariables false
set_option linter.unusedSimpArgs false
set_option maxRecDepth 100000
open Go.RowKit
set_option maxHeartbeats 8000000 in
theorem l_FnPlayers {w : World} {a : Option Addr} {n cap : Nat} (h : Bytes w a n cap) :
    Calls Try.prog 3 #[.slice a n cap] w fun e w' => e = .returned (.bool true) ∧ Ext w w' := by
  have hcap := h.hcap
  have hmax := h.hmax
  have H := Lib.hid h
  clear h
  by_cases hbig : 1048576 < n
  · go_enter Try.func3, Try.ntmps3
    go_wp2_with fail
    go_in
    go_wp2_with fail
    go_ret
    exact ⟨rfl, Ext.refl _⟩
  have hb : n ≤ 1048576 := by omega
  go_enter Try.func3, Try.ntmps3
  go_wp2_with fail
  go_in
  go_wp2_with fail
  refine (s_DrawNullPlayers H.out hb).mono ?_
  rintro e w1 ⟨⟨y, b, m, c, V, rfl, hV, hm⟩, hx⟩
  obtain ⟨W, hW⟩ : ∃ W, W = w1.alloc (.cells #[.int .i64 y, .slice b m c] 26) := ⟨_, rfl⟩
  have hxW : Ext w1 W := by rw [hW]; exact Ext.alloc _ _
  have XA := Lib.hid (hx.trans hxW)
  have HV := Lib.hid (hV.ext hxW)
  have g0 : W.cell? ⟨w1.heap.size, 0, none⟩ = some (.int .i64 y) := by rw [hW]; simp
  have g1 : W.cell? ⟨w1.heap.size, 1, none⟩ = some (.slice b m c) := by rw [hW]; simp
  clear hV hx hxW
  go_upto_region 4 with fail
  rw [← hW]
  clear hW
  go_wp2_with fail
  refine (i_NullPlayers (p := y) HV.out).mono ?_
  rintro e w2 ⟨⟨v, rfl, ho⟩, hx⟩
  obtain ⟨a2, n2, p2, rfl, HN2⟩ := ho.var
  have O2 := Lib.hid ho
  have X2 := Lib.hid hx
  have g02 := hx.cellSome g0
  have g12 := hx.cellSome g1
  clear ho hx g0 g1
  go_wp2_with fail
  refine (i_ShapleyValue (x := y) (HV.out.ext X2.out)).mono ?_
  rintro e w3 ⟨⟨v, rfl, ho⟩, hx⟩
  obtain ⟨a3, n3, p3, rfl, HN3⟩ := ho.var
  have R3 := Lib.hid ho
  have O3 := Lib.hid (O2.out.ext hx)
  have X3 := Lib.hid (X2.out.trans hx)
  have g03 := hx.cellSome g02
  have g13 := hx.cellSome g12
  obtain ⟨ok, hok⟩ : ∃ o, o = gameOk y V := ⟨_, rfl⟩
  rw [← hok]
  have HOK := Lib.hid hok
  clear ho hx g02 g12 hok
  go_wp2_with fail
  refine (s_BanzhafValue (x := y) (HV.out.ext X3.out)).mono ?_
  rintro e w4 ⟨⟨v, rfl, ho⟩, hx⟩
  obtain ⟨a4, n4, p4, rfl, HN4⟩ := ho.var
  have R4 := Lib.hid ho
  have S4 := Lib.hid (R3.out.ext hx)
  have O4 := Lib.hid (O3.out.ext hx)
  have X4 := Lib.hid (X3.out.trans hx)
  have g04 := hx.cellSome g03
  have g14 := hx.cellSome g13
  rw [← HOK.out]
  clear ho hx g03 g13
  go_wp2_with fail
  refine (s_NullPlayers (p := y) (HV.out.ext X4.out)).mono ?_
  rintro e w5 ⟨⟨v, rfl, ho⟩, hx⟩
  obtain ⟨a5, n5, p5, rfl, HN5⟩ := ho.var
  have HE := Lib.hid (l_sameInts (O4.out.ints.ext hx) ho.ints)
  rw [decide_eq_true rfl] at HE
  have X5 := Lib.hid (X4.out.trans hx)
  have R5 := Lib.hid (R4.out.ext hx)
  have S5 := Lib.hid (S4.out.ext hx)
  have O5 := Lib.hid (O4.out.ext hx)
  clear ho hx g04 g14
  go_wp2_with fail
  refine HE.out.mono ?_
  rintro e w6 ⟨rfl, hx⟩
  have X6 := Lib.hid (X5.out.trans hx.ext)
  have R6 := Lib.hid (R5.out.ext hx.ext)
  have S6 := Lib.hid (S5.out.ext hx.ext)
  have O6 := Lib.hid (O5.out.ext hx.ext)
  have hr1 := R6.out.rats.hcap
  have hr2 := R6.out.rats.hmax
  have hs1 := S6.out.rats.hcap
  have hs2 := S6.out.rats.hmax
  have ho1 := O6.out.ints.hcap
  have ho2 := O6.out.ints.hmax
  clear hx
  have HNZ := Lib.hid (fun j (hj : j < n2) => null_zero (p := y) (V := V) (j := j) (by rw [HN2.out]; exact hj))
  have HN0 := Lib.hid (show ok = false → n2 = 0 from fun h => by
    rw [← HN2.out, nullL_not (by rw [← HOK.out]; exact h)]; rfl)
  go_wp2_with fail
  go_loopg [9] n2 (fun gk kk wr => ∃ k : Nat, Hid (gk + k = n2) ∧ kk = .int .i64 (k : Int) ∧ Hid (Ext w6 wr))
  case atStart => exact ⟨0, Lib.hid (by omega), rfl, Lib.hid (Ext.refl _)⟩
  case round =>
    obtain ⟨g1, h_g1⟩ : ∃ x, x = gk := ⟨_, rfl⟩
    subst h_g1
    obtain ⟨wr1, h_wr1⟩ : ∃ x, x = wr := ⟨_, rfl⟩
    subst h_wr1
    obtain ⟨k, HK, rfl, XR⟩ := hrel
    by_cases hlt : k < n2
    · obtain ⟨kk, hk1, hk2, hk3, hz1, hz2⟩ := HNZ.out k hlt
      have hok : ok = true := by
        cases hok : ok
        · have := HN0.out hok; omega
        · rfl
      subst hok
      obtain ⟨lb, lo, rfl, hl⟩ := (O6.out.ints.ext XR.out).at hlt
      rw [hk1] at hl
      have hk3' : kk < n3 := by rw [← HN3.out]; exact hk2
      have hk4' : kk < n4 := by rw [← HN4.out]; exact hk3
      obtain ⟨xb1, xo1, u1, v1, rfl, he1, hc1, hd1⟩ := (S6.out.rats.ext XR.out).at hk3'
      obtain ⟨xb2, xo2, u2, v2, rfl, he2, hc2, hd2⟩ := (R6.out.rats.ext XR.out).at hk4'
      rw [he1] at hz1
      rw [he2] at hz2
      simp only at hz1 hz2
      subst hz1
      subst hz2
      clear hk1 hk2 hk3 he1 he2
      go_wp2_with fail
      go_roundg (g1 - 1)
      case measure => have := HK.out; omega
      case rel => exact ⟨k + 1, Lib.hid (by have := HK.out; omega), by go_num, XR⟩
    · have XE := Lib.hid ((XA.out.trans X6.out).trans XR.out)
      go_wp2_with fail
      refine (s_DrawAreSymmetric (H.out.ext XE.out) hb).mono ?_
      rintro e w7 ⟨⟨z, i, j, b7, m7, c7, V7, rfl, hV, hm⟩, hx⟩
      obtain ⟨B, hB⟩ : ∃ W, W = w7.alloc (.cells #[.int .i64 z, .slice b7 m7 c7] 26) := ⟨_, rfl⟩
      have hxB : Ext w7 B := by rw [hB]; exact Ext.alloc _ _
      have XB := Lib.hid ((XE.out.trans hx).trans hxB)
      have HW := Lib.hid (hV.ext hxB)
      have f0 : B.cell? ⟨w7.heap.size, 0, none⟩ = some (.int .i64 z) := by rw [hB]; simp
      have f1 : B.cell? ⟨w7.heap.size, 1, none⟩ = some (.slice b7 m7 c7) := by rw [hB]; simp
      clear hV hx hxB
      go_upto_region 15 with fail
      rw [← hB]
      clear hB
      go_wp2_with fail
      refine (i_AreSymmetric (p := z) (x := i) (y := j) HW.out).mono ?_
      rintro e w8 ⟨rfl, hx⟩
      obtain ⟨same, hsame⟩ : ∃ o, o = symOk z V7 i j := ⟨_, rfl⟩
      rw [← hsame]
      have HSA := Lib.hid hsame
      have X8 := Lib.hid hx
      have f08 := hx.cellSome f0
      have f18 := hx.cellSome f1
      clear hx f0 f1 hsame
      go_wp2_with fail
      refine (i_ShapleyValue (x := z) (HW.out.ext X8.out)).mono ?_
      rintro e w9 ⟨⟨v, rfl, ho⟩, hx⟩
      obtain ⟨a9, n9, p9, rfl, HN9⟩ := ho.var
      have R9 := Lib.hid ho
      have X9 := Lib.hid (X8.out.trans hx)
      have f09 := hx.cellSome f08
      have f19 := hx.cellSome f18
      have hq1 := ho.rats.hcap
      have hq2 := ho.rats.hmax
      have HSY := Lib.hid (fun (w' : World) (h : Ext B w') => s_AreSymmetric (p := z) (x := i) (y := j) (HW.out.ext h))
      rw [← HSA.out] at HSY
      have HKK := Lib.hid (fun (w' : World) (h : Ext w9 w') => (⟨h.cellSome f09, h.cellSome f19⟩ : w'.cell? ⟨w7.heap.size, 0, none⟩ = some (.int .i64 z) ∧ w'.cell? ⟨w7.heap.size, 1, none⟩ = some (.slice b7 m7 c7)))
      have hkd : Ext w9 w9.drew := Ext.drew w9
      clear ho hx f08 f18 f09 f19
      cases same
      · go_wp2_with fail
        refine wp_region_held_drew (S := (fun w' => w'.cell? ⟨w7.heap.size, 0, none⟩ = some (.int .i64 z) ∧ w'.cell? ⟨w7.heap.size, 1, none⟩ = some (.slice b7 m7 c7))) (by kernel_rfl) ?_ (fun hHeld => ?_)
        · exact HKK.out _ hkd
        refine tk (i := 0) (h := ?_)
        try simp only [Act.put, sA, sB, sC]
        refine tk (i := 1) (h := ?_)
        try simp only [Act.put, sA, sB, sC]
        refine tk (i := 2) (h := ?_)
        try simp only [Act.put, sA, sB, sC]
        refine tk (i := 3) (h := ?_)
        try simp only [Act.put, sA, sB, sC]
        refine rd (i := 4) (h := fun K hK => ?_)
        go_simp
        refine (HSY.out _ (X9.out.trans hkd)).mono ?_; rintro e w10 ⟨rfl, hx⟩; have hk10 := hkd.trans hx; clear hx
        go_wp2_with fail
        refine hK.out _ _ ?_ (fun hHeld => ?_)
        · exact HKK.out _ hk10
        clear hK K
        try simp only [Act.put, sA, sB, sC]
        refine tk (i := 5) (h := ?_)
        try simp only [Act.put, sA, sB, sC]
        refine tk (i := 6) (h := ?_)
        try simp only [Act.put, sA, sB, sC]
        refine tk (i := 7) (h := ?_)
        try simp only [Act.put, sA, sB, sC]
        refine tk (i := 8) (h := ?_)
        try simp only [Act.put, sA, sB, sC]
        refine tk (i := 9) (h := ?_)
        try simp only [Act.put, sA, sB, sC]
        refine sk (i := 10) (h := ?_)
        try simp only [Act.put, sA, sB, sC]
        refine sk (i := 11) (h := ?_)
        try simp only [Act.put, sA, sB, sC]
        refine sk (i := 12) (h := ?_)
        try simp only [Act.put, sA, sB, sC]
        refine sk (i := 13) (h := ?_)
        try simp only [Act.put, sA, sB, sC]
        refine sk (i := 14) (h := ?_)
        try simp only [Act.put, sA, sB, sC]
        refine sk (i := 15) (h := ?_)
        try simp only [Act.put, sA, sB, sC]
        refine sk (i := 16) (h := ?_)
        try simp only [Act.put, sA, sB, sC]
        refine sk (i := 17) (h := ?_)
        try simp only [Act.put, sA, sB, sC]
        refine sk (i := 18) (h := ?_)
        try simp only [Act.put, sA, sB, sC]
        refine sk (i := 19) (h := ?_)
        try simp only [Act.put, sA, sB, sC]
        refine sk (i := 20) (h := ?_)
        try simp only [Act.put, sA, sB, sC]
        refine sk (i := 21) (h := ?_)
        try simp only [Act.put, sA, sB, sC]
        refine tk (i := 22) (h := ?_)
        try simp only [Act.put, sA, sB, sC]
        refine tk (i := 23) (h := ?_)
        try simp only [Act.put, sA, sB, sC]
        refine tk (i := 24) (h := ?_)
        try simp only [Act.put, sA, sB, sC]
        refine wpAnyH_done (by kernel_rfl) ?_ _
        go_wp2_with fail
        go_ret
        exact ⟨rfl, (XB.out.trans X9.out).trans hk10⟩
      · obtain ⟨i', j', rfl, rfl, hi', hj', heq, hgo⟩ := sym_same HSA.out.symm
        have hgok : gameOk z V7 = true := hgo
        obtain ⟨xb1, xo1, u1, v1, rfl, he1, hc1, hd1⟩ := R9.out.rats.at (show i' < n9 by rw [← HN9.out]; exact hi')
        obtain ⟨xb2, xo2, u2, v2, he0, he2, hc2, hd2⟩ := R9.out.rats.at (show j' < n9 by rw [← HN9.out]; exact hj')
        simp only [Option.some.injEq, Addr.mk.injEq, and_true] at he0
        obtain ⟨rfl, rfl⟩ := he0
        rw [he1, he2] at heq
        simp only [Prod.mk.injEq] at heq
        obtain ⟨rfl, rfl⟩ := heq
        have hi9 : i' < n9 := by rw [← HN9.out]; exact hi'
        have hj9 : j' < n9 := by rw [← HN9.out]; exact hj'
        have HK3 := Lib.hid (fun (w' : World) (h : Ext w9 w') => (⟨(HKK.out _ h).1, (HKK.out _ h).2, h.cellSome hc1, h.cellSome hd1, h.cellSome hc2, h.cellSome hd2⟩ : w'.cell? ⟨w7.heap.size, 0, none⟩ = some (.int .i64 z) ∧ w'.cell? ⟨w7.heap.size, 1, none⟩ = some (.slice b7 m7 c7) ∧ w'.cell? ⟨xb1, xo1 + i' * 2, none⟩ = some (.int .i64 u1) ∧ w'.cell? ⟨xb1, xo1 + i' * 2 + 1, none⟩ = some (.int .i64 v1) ∧ w'.cell? ⟨xb1, xo1 + j' * 2, none⟩ = some (.int .i64 u1) ∧ w'.cell? ⟨xb1, xo1 + j' * 2 + 1, none⟩ = some (.int .i64 v1)))
        clear hi' hj' he1 he2 hgo
        go_wp2_with fail
        refine wp_region_held_drew (S := (fun w' => w'.cell? ⟨w7.heap.size, 0, none⟩ = some (.int .i64 z) ∧ w'.cell? ⟨w7.heap.size, 1, none⟩ = some (.slice b7 m7 c7) ∧ w'.cell? ⟨xb1, xo1 + i' * 2, none⟩ = some (.int .i64 u1) ∧ w'.cell? ⟨xb1, xo1 + i' * 2 + 1, none⟩ = some (.int .i64 v1) ∧ w'.cell? ⟨xb1, xo1 + j' * 2, none⟩ = some (.int .i64 u1) ∧ w'.cell? ⟨xb1, xo1 + j' * 2 + 1, none⟩ = some (.int .i64 v1))) (by kernel_rfl) ?_ (fun hHeld => ?_)
        · exact HK3.out _ hkd
        refine tk (i := 0) (h := ?_)
        try simp only [Act.put, sA, sB, sC]
        refine tk (i := 1) (h := ?_)
        try simp only [Act.put, sA, sB, sC]
        refine tk (i := 2) (h := ?_)
        try simp only [Act.put, sA, sB, sC]
        refine tk (i := 3) (h := ?_)
        try simp only [Act.put, sA, sB, sC]
        refine rd (i := 4) (h := fun K hK => ?_)
        go_simp
        refine (HSY.out _ (X9.out.trans hkd)).mono ?_; rintro e w10 ⟨rfl, hx⟩; have hk10 := hkd.trans hx; clear hx
        go_wp2_with fail
        refine hK.out _ _ ?_ (fun hHeld => ?_)
        · exact HK3.out _ hk10
        clear hK K
        try simp only [Act.put, sA, sB, sC]
        refine tk (i := 5) (h := ?_)
        try simp only [Act.put, sA, sB, sC]
        refine tk (i := 6) (h := ?_)
        try simp only [Act.put, sA, sB, sC]
        refine tk (i := 7) (h := ?_)
        try simp only [Act.put, sA, sB, sC]
        refine tk (i := 8) (h := ?_)
        try simp only [Act.put, sA, sB, sC]
        refine tk (i := 9) (h := ?_)
        try simp only [Act.put, sA, sB, sC]
        refine tk (i := 10) (h := ?_)
        try simp only [Act.put, sA, sB, sC]
        refine tk (i := 11) (h := ?_)
        try simp only [Act.put, sA, sB, sC]
        refine tk (i := 12) (h := ?_)
        try simp only [Act.put, sA, sB, sC]
        refine tk (i := 13) (h := ?_)
        try simp only [Act.put, sA, sB, sC]
        refine tk (i := 14) (h := ?_)
        try simp only [Act.put, sA, sB, sC]
        refine tk (i := 15) (h := ?_)
        try simp only [Act.put, sA, sB, sC]
        refine tk (i := 16) (h := ?_)
        try simp only [Act.put, sA, sB, sC]
        refine tk (i := 17) (h := ?_)
        try simp only [Act.put, sA, sB, sC]
        refine tk (i := 18) (h := ?_)
        try simp only [Act.put, sA, sB, sC]
        refine tk (i := 19) (h := ?_)
        try simp only [Act.put, sA, sB, sC]
        refine tk (i := 20) (h := ?_)
        try simp only [Act.put, sA, sB, sC]
        refine tk (i := 21) (h := ?_)
        try simp only [Act.put, sA, sB, sC]
        refine tk (i := 22) (h := ?_)
        try simp only [Act.put, sA, sB, sC]
        refine tk (i := 23) (h := ?_)
        try simp only [Act.put, sA, sB, sC]
        refine tk (i := 24) (h := ?_)
        try simp only [Act.put, sA, sB, sC]
        refine wpAnyH_done (by kernel_rfl) ?_ _
        go_wp2_with fail
        go_ret
        exact ⟨rfl, (XB.out.trans X9.out).trans hk10⟩
end Go.Proofs.Ytgohdmnbnhehnaa
