import Derived.Test.YtgohdmnbnhehnaaCvAllG3
import Derived.Deep.RegionLaw
import Derived.Laws.EntriesVeiled
import Derived.Test.YtgohdmnbnhehnaaCvAllG2
import Derived.Test.YtgohdmnbnhehnaaCvAllG4
import Derived.StillTailTactics
namespace Go.Proofs.Ytgohdmnbnhehnaa
set_option linter.unusedVariables false
open Go.RowKit
section
variable {w w' : World} {base bn bN bo bw n m c m' c' : Nat} {p : List Int} {L : List (List Int)} {a a' : Option Addr} {vs : List Value}
end
def ordersOf (n : Int) : List (List Int) := if 1 ≤ n ∧ n ≤ 5 then ordersF n.toNat n.toNat [] else []
set_option maxHeartbeats 1000000 in
theorem s_AllOrders (x : Int) (w : World) :
    Calls Try.prog 22 #[.int .i64 x] w fun e w' => ∃ v, e = .returned v ∧ OwnSS w' w.heap.size v (ordersOf x) ∧ Ext w w' := by
  cases hin : inB x 1 5
  · have HI := Lib.hid (show ordersOf x = [] by unfold ordersOf; rw [if_neg]; unfold inB at hin; simp at hin; omega)
    go_enter Try.func22, Try.ntmps22
    go_wp2_with (first | (go_at_call 70; refine (s_l1In _ _ _ _).mono ?_; rintro e w' ⟨rfl, rfl⟩))
    go_ret
    exact ⟨_, rfl, by rw [HI.out]; exact ⟨[], OwnV.made w _ (Nat.le_refl _), RowsI.nil _ _⟩, Ext.alloc _ _⟩
  · have hb : 1 ≤ x ∧ x ≤ 5 := by unfold inB at hin; simpa using hin
    obtain ⟨n, rfl⟩ : ∃ n : Nat, x = n := ⟨x.toNat, by omega⟩
    have hn : n ≤ 5 := by omega
    have h5 : 5 ^ n ≤ 5 ^ 5 := Nat.pow_le_pow_right (by omega) hn
    have HI := Lib.hid (show ordersOf (n : Int) = ordersF n n [] by unfold ordersOf; rw [if_pos hb]; simp)
    have HC := Lib.hid (s_l15Orders n hn n ((w.alloc (.cells #[] 3)).alloc (.cells #[] 24)) w.heap.size w.heap.size (some ⟨w.heap.size, 0, none⟩) 0 0 [] (some ⟨w.heap.size + 1, 0, none⟩) 0 0 [] (by simp) ((OwnI.made w w.heap.size (Nat.le_refl _)).ext (Ext.alloc _ _)) ⟨[], by simpa using OwnV.made (w.alloc (.cells #[] 3)) w.heap.size (by simp), RowsI.nil _ _⟩ (by simp; omega) (by simp; omega))
    clear h5 hb
    go_enter Try.func22, Try.ntmps22
    go_wp2_with (first | (go_at_call 70; refine (s_l1In _ _ _ _).mono ?_; rintro e w' ⟨rfl, rfl⟩))
    refine HC.out.mono ?_
    rintro e w1 ⟨v, rfl, ho, hg, _⟩
    have HO := Lib.hid ho
    have HX := Lib.hid (ext_grown ((Ext.alloc w (.cells #[] 3)).trans (Ext.alloc _ (.cells #[] 24))) hg (fun k hk => by have := Option.some.inj (show some (w.heap.size + 1) = some k from hk); omega))
    clear ho hg
    go_wp2
    go_ret
    exact ⟨_, rfl, by rw [HI.out]; simpa using HO.out, HX.out⟩
end Go.Proofs.Ytgohdmnbnhehnaa
namespace Go.Proofs.Ytgohdmnbnhehnaa
set_option linter.unusedVariables false
open Go.RowKit
theorem s_l2B (k : Nat) (h : k ≤ 5) (w : World) : Calls Try.prog 65 #[.int .i64 (k : Int)] w fun e w' => e = .returned (.int .i64 (2 ^ k)) ∧ w = w' := by
  have := s_l2Bit k w
  rwa [cntC_nat k h, cN_pow] at this
theorem kwrap_pow (k : Nat) (h : k ≤ 5) : IntKind.i64.wrap ((2 : Int) ^ k) = 2 ^ k := by
  have := pow_pos k
  have := pow_le5 k h
  rw [IntKind.wrap_i64]; omega
end Go.Proofs.Ytgohdmnbnhehnaa
namespace Go.Proofs.Ytgohdmnbnhehnaa
set_option linter.unusedVariables false
set_option linter.unusedSimpArgs false
open Go.RowKit
theorem Ints.take {w : World} {a : Option Addr} {n cap : Nat} {l : List Int} (h : Ints w a n cap l) {k : Nat} (hk : k ≤ n) : Ints w a k cap (l.take k) :=
  ⟨by have := h.hlen; simp; omega, by have := h.hcap; omega, h.hmax, fun j hj => by
    obtain ⟨b, off, e, hc⟩ := h.cell j (by omega)
    refine ⟨b, off, e, fun i hi => ?_⟩
    rw [hc i (by omega), List.getElem?_take, if_pos hi]⟩
def pos (ord : List Int) (k : Nat) : Nat := (ord[k]?.getD 0).toNat
def sN (ord : List Int) : Nat → Nat
  | 0 => 0
  | k + 1 => sN ord k + cN (pos ord k)
def mvL (n : Nat) (V ord : List Int) : Nat → List Int
  | 0 => List.replicate n 0
  | k + 1 => (mvL n V ord k).set (pos ord k) (V[sN ord (k + 1)]?.getD 0 - V[sN ord k]?.getD 0)
theorem mvL_len (n : Nat) (V ord : List Int) : ∀ k, (mvL n V ord k).length = n
  | 0 => by simp [mvL]
  | k + 1 => by simp [mvL, mvL_len n V ord k]
def ordTo (n : Int) (ord : List Int) (k : Nat) : Bool := (List.range k).all fun (i : Nat) => inB (ord[i]?.getD 0) 0 (n - 1) && !hasI (ord.take i) (ord[i]?.getD 0)
theorem ordTo_succ (n : Int) (ord : List Int) (k : Nat) : ordTo n ord (k + 1) = (ordTo n ord k && (inB (ord[k]?.getD 0) 0 (n - 1) && !hasI (ord.take k) (ord[k]?.getD 0))) := by simp [ordTo, List.range_succ]
theorem ordTo_false {n : Int} {ord : List Int} {k N : Nat} (h : (inB (ord[k]?.getD 0) 0 (n - 1) && !hasI (ord.take k) (ord[k]?.getD 0)) = false) (hk : k < N) : ordTo n ord N = false := by
  unfold ordTo
  rw [List.all_eq_false]
  exact ⟨k, List.mem_range.2 hk, by rw [h]; simp⟩
theorem ordTo_less {n : Int} {ord : List Int} {k N : Nat} (h : ordTo n ord N = true) (hk : k ≤ N) : ordTo n ord k = true :=
  List.all_eq_true.2 fun i hi => List.all_eq_true.1 h i (List.mem_range.2 (by have := List.mem_range.1 hi; omega))
def isOrd (n : Int) (ord : List Int) : Bool := ordTo n ord ord.length && decide ((ord.length : Int) = n)
theorem join_nat : ∀ n : Fin 6, ∀ s : Fin 32, ∀ k : Fin 5, s.val < cN n.val → k.val < n.val → bit ((s.val : Nat) : Int) k.val = false →
    s.val + cN k.val < cN n.val ∧ bits .or .i64 ((s.val : Nat) : Int) (2 ^ k.val) = ((s.val + cN k.val : Nat) : Int) ∧ ∀ j : Fin 5, bit ((s.val + cN k.val : Nat) : Int) j.val = (bit ((s.val : Nat) : Int) j.val || decide (j.val = k.val)) := by decide +kernel
theorem join (n s k : Nat) (hn : n ≤ 5) (hs : s < cN n) (hk : k < n) (hb : bit (s : Int) k = false) :
    s + cN k < cN n ∧ bits .or .i64 (s : Int) (2 ^ k) = ((s + cN k : Nat) : Int) ∧ ∀ j, j < 5 → bit ((s + cN k : Nat) : Int) j = (bit (s : Int) j || decide (j = k)) := by
  have h := join_nat ⟨n, by omega⟩ ⟨s, by have := cN_le n hn; omega⟩ ⟨k, by omega⟩ hs hk hb
  exact ⟨h.1, h.2.1, fun j hj => h.2.2 ⟨j, hj⟩⟩
theorem hasI_snoc (l : List Int) (x y : Int) : hasI (l ++ [x]) y = (hasI l y || decide (x = y)) := by
  unfold hasI
  simp only [List.contains_eq_mem, List.mem_append, List.mem_singleton, Bool.decide_or]
  congr 1
  rw [Bool.eq_iff_iff]; simp only [decide_eq_true_eq]; exact eq_comm
theorem ord_inv {n : Nat} (hn : n ≤ 5) {ord : List Int} : ∀ k, k ≤ ord.length → ordTo (n : Int) ord k = true → sN ord k < cN n ∧ ∀ j, j < 5 → bit (sN ord k : Int) j = hasI (ord.take k) (j : Int)
  | 0, _, _ => by
    have := cN_le n hn
    exact ⟨by simp [sN]; omega, fun j _ => by simp [sN, bit, hasI]⟩
  | k + 1, hk, h => by
    rw [ordTo_succ] at h
    simp only [Bool.and_eq_true, Bool.not_eq_true'] at h
    obtain ⟨h1, h2, h3⟩ := h
    have ih := ord_inv hn k (by omega) h1
    have hb : 0 ≤ ord[k]?.getD 0 ∧ ord[k]?.getD 0 ≤ (n : Int) - 1 := by unfold inB at h2; simpa using h2
    have hp : ord[k]?.getD 0 = (pos ord k : Int) := by unfold pos; omega
    have hpn : pos ord k < n := by omega
    have hbit : bit (sN ord k : Int) (pos ord k) = false := by rw [ih.2 _ (by omega), ← hp]; exact h3
    have hj := join n _ _ hn ih.1 hpn hbit
    refine ⟨hj.1, fun j hj5 => ?_⟩
    show bit ((sN ord k + cN (pos ord k) : Nat) : Int) j = _
    rw [hj.2.2 j hj5, ih.2 j hj5, take_snoc (by omega), hasI_snoc, hp]
    congr 1
    rw [Bool.eq_iff_iff]; simp; omega
theorem ord_step {n : Nat} (hn : n ≤ 5) {ord : List Int} {k : Nat} (hk : k < ord.length) (h : ordTo (n : Int) ord (k + 1) = true) :
    ord[k]?.getD 0 = (pos ord k : Int) ∧ pos ord k < n ∧ sN ord k < cN n ∧ sN ord (k + 1) < cN n ∧ bits .or .i64 (sN ord k : Int) (2 ^ pos ord k) = (sN ord (k + 1) : Int) ∧ (sN ord (k + 1) : Int) = (sN ord k : Int) + 2 ^ pos ord k := by
  have h0 := ordTo_less h (Nat.le_succ k)
  rw [ordTo_succ] at h
  simp only [Bool.and_eq_true, Bool.not_eq_true'] at h
  obtain ⟨h1, h2, h3⟩ := h
  have ih := ord_inv hn k (by omega) h1
  have hb : 0 ≤ ord[k]?.getD 0 ∧ ord[k]?.getD 0 ≤ (n : Int) - 1 := by unfold inB at h2; simpa using h2
  have hp : ord[k]?.getD 0 = (pos ord k : Int) := by unfold pos; omega
  have hpn : pos ord k < n := by omega
  have hbit : bit (sN ord k : Int) (pos ord k) = false := by rw [ih.2 _ (by omega), ← hp]; exact h3
  have hj := join n _ _ hn ih.1 hpn hbit
  refine ⟨hp, hpn, ih.1, hj.1, hj.2.1, ?_⟩
  show ((sN ord k + cN (pos ord k) : Nat) : Int) = _
  rw [Int.natCast_add, cN_pow]
set_option maxHeartbeats 1000000 in
theorem s_l15IsOrder {w : World} {a : Option Addr} {n cap : Nat} {ord : List Int} (p : Nat) (hp : p ≤ 5) (h : Ints w a n cap ord) :
    Calls Try.prog 77 #[.int .i64 (p : Int), .slice a n cap] w fun e w' => e = .returned (.bool (isOrd (p : Int) ord)) ∧ Drew w w' := by
  have hn := h.hcap
  have hm := h.hmax
  have HL := Lib.hid h.hlen
  have HI := Lib.hid h
  clear h
  go_enter Try.func77, Try.ntmps77
  go_wp2
  go_loopw [5] (fun i wr => ∃ k : Nat, k ≤ n ∧ i = .int .i64 k ∧ Hid (ordTo (p : Int) ord k = true) ∧ Hid (Drew w wr)) (fun i _ => n - (intOf i).toNat)
  case atStart => exact ⟨0, Nat.zero_le _, rfl, Lib.hid (by simp [ordTo]), Lib.hid (Drew.refl _)⟩
  case round =>
    obtain ⟨k, hk, rfl, HO, HX⟩ := hrel
    have HI1 := Lib.hid (HI.out.ext HX.out.ext)
    by_cases hlt : k < n
    · obtain ⟨b, off, rfl, hc⟩ := HI1.out.at hlt
      have hint : IntKind.i64.wrap ((p : Int) - 1) = (p : Int) - 1 := by rw [IntKind.wrap_i64]; omega
      cases hb : inB (ord[k]?.getD 0) 0 ((p : Int) - 1)
      · have HB := Lib.hid hb
        go_wp2
        go_quiet ((first | (go_at_call 70; exact quiet_same (s_l1In _ _ _ _))))
        go_wp2
        go_ret
        exact ⟨ret_bool (by unfold isOrd; rw [HL.out, ordTo_false (k := k) (by rw [HB.out]; rfl) hlt]; rfl), HX.out.trans ⟨_, rfl⟩⟩
      · have HB := Lib.hid hb
        cases hh : hasI (ord.take k) (ord[k]?.getD 0)
        all_goals
          have HH := Lib.hid hh
          go_wp2
          go_quiet ((first | (go_at_call 70; exact quiet_same (s_l1In _ _ _ _)) | (go_at_call 127; exact quiet_same (s_l1HasInt _ ((HI1.out.drewN _).take (by omega))))))
          go_wp2
        · go_roundw
          case rel => exact ⟨k + 1, by omega, by go_num, Lib.hid (by rw [ordTo_succ, HO.out, HB.out, HH.out]; rfl), Lib.hid (HX.out.trans ⟨_, rfl⟩)⟩
          case measure => simp [intOf]; omega
        · go_ret
          exact ⟨ret_bool (by unfold isOrd; rw [HL.out, ordTo_false (k := k) (by rw [HB.out, HH.out]; rfl) hlt]; rfl), HX.out.trans ⟨_, rfl⟩⟩
    · have hkn : k = n := by omega
      subst hkn
      go_wp2
      go_ret
      exact ⟨ret_bool (by unfold isOrd; rw [HL.out, HO.out]; rw [Bool.eq_iff_iff]; simp), HX.out⟩
def margOk (p : Int) (V ord : List Int) : Bool := gameOk p V && isOrd p ord
def margL (p : Int) (V ord : List Int) : List Int := if margOk p V ord then mvL p.toNat V ord ord.length else []
theorem isOrd_len {p : Int} {ord : List Int} (h : isOrd p ord = true) : (ord.length : Int) = p ∧ ordTo p ord ord.length = true := by
  unfold isOrd at h
  simp only [Bool.and_eq_true, decide_eq_true_eq] at h
  exact ⟨h.2, h.1⟩
def ListB (w : World) (base : Nat) (e : Ending) (l : List Int) (b : Bool) : Prop := ∃ v, e = .returned (.tuple #[v, .bool b]) ∧ OwnI w base v l
set_option maxRecDepth 100000 in
set_option maxHeartbeats 4000000 in
theorem s_MarginalVector {w : World} {p : Int} {a a' : Option Addr} {n n' cap cap' : Nat} {V ord : List Int} (h : Ints w a n cap V) (h' : Ints w a' n' cap' ord) :
    Calls Try.prog 23 #[pair p a n cap, .slice a' n' cap'] w fun e w' => ListB w' w.heap.size e (margL p V ord) (margOk p V ord) ∧ Ext w w' := by
  have hi := h.alloc (.cells #[.int .i64 p, .slice a n cap] 26)
  have HX := Lib.hid (Ext.alloc w (.cells #[.int .i64 p, .slice a n cap] 26))
  have HL := Lib.hid h.hlen
  have HL' := Lib.hid h'.hlen
  have HV := Lib.hid (s_IsValidGame (p := p) hi)
  have hmax := h.hmax
  have hcap := h.hcap
  have hmax' := h'.hmax
  have hcap' := h'.hcap
  cases hv : gameOk p V
  · rw [hv] at HV
    have HM := Lib.hid (show margOk p V ord = false by unfold margOk; rw [hv]; rfl)
    clear hv
    go_enter Try.func23, Try.ntmps23
    go_wp2_with fail
    refine HV.out.mono ?_
    rintro e w1 ⟨rfl, hx⟩
    have HO := Lib.hid (OwnI.made w1 w.heap.size (HX.out.trans hx).size)
    go_wp2
    refine bodyPost_ret (v := .tuple #[.slice (some ⟨w1.heap.size, 0, none⟩) 0 0, .bool false]) (by simp [results, Try.results23, go_sem]) rfl ?_
    exact ⟨⟨_, by rw [HM.out], by unfold margL; rw [HM.out]; exact HO.out⟩, (HX.out.trans hx).trans (Ext.alloc _ _)⟩
  · rw [hv] at HV
    obtain ⟨m, rfl, hm1, hm5, hVn, hV0, hVb⟩ := gameOk_len hv
    have HI' := Lib.hid (h'.ext HX.out)
    cases ho : isOrd (m : Int) ord
    · have HM := Lib.hid (show margOk (m : Int) V ord = false by unfold margOk; rw [ho]; simp)
      have HOF := Lib.hid ho
      clear ho hv
      go_enter Try.func23, Try.ntmps23
      go_wp2_with fail
      refine HV.out.mono ?_
      rintro e w1 ⟨rfl, hx⟩
      have c0 : w1.cell? ⟨w.heap.size, 0, none⟩ = some (.int .i64 (m : Int)) := hx.cellSome (by simp)
      have HX1 := Lib.hid hx
      clear hx
      go_wp2_with fail
      refine (s_l15IsOrder m hm5 (HI'.out.ext HX1.out)).mono ?_
      rw [HOF.out]
      rintro e w2 ⟨rfl, hx⟩
      have HX2 := Lib.hid (HX1.out.trans hx.ext)
      have HO := Lib.hid (OwnI.made w2 w.heap.size (HX.out.trans HX2.out).size)
      clear hx
      go_wp2
      refine bodyPost_ret (v := .tuple #[.slice (some ⟨w2.heap.size, 0, none⟩) 0 0, .bool false]) (by simp [results, Try.results23, go_sem]) rfl ?_
      exact ⟨⟨_, by rw [HM.out], by unfold margL; rw [HM.out]; exact HO.out⟩, (HX.out.trans HX2.out).trans (Ext.alloc _ _)⟩
    · have HM := Lib.hid (show margOk (m : Int) V ord = true by unfold margOk; rw [hv, ho]; rfl)
      have hol := isOrd_len ho
      have HOT := Lib.hid hol.2
      have HOF := Lib.hid ho
      have HVB := Lib.hid (show ∀ i : Nat, -500 ≤ V[i]?.getD 0 ∧ V[i]?.getD 0 ≤ 500 from fun i => by
        by_cases hi : i < V.length
        · have := hVb _ (List.getElem_mem hi); simpa [hi] using this
        · simp [List.getElem?_eq_none (by omega : V.length ≤ i)])
      have hN := cN_le m hm5
      have hnN : n = cN m := by rw [← hVn]; exact h.hlen.symm
      have hn'm : n' = m := by have := h'.hlen; omega
      subst hn'm
      obtain ⟨bv, offv, rfl, hcv⟩ := h.cell 0 (by omega)
      obtain ⟨bo, offo, rfl, hco⟩ := h'.cell 0 (by omega)
      have HCV := Lib.hid hcv
      have HCO := Lib.hid hco
      have HNN := Lib.hid hnN
      have hmk := mk_ints n' (by omega)
      clear ho hv hol hV0 hVb hVn hcv hco h h' hi hnN
      go_enter Try.func23, Try.ntmps23
      go_wp2_with fail
      refine HV.out.mono ?_
      rintro e w1 ⟨rfl, hx⟩
      have c0 : w1.cell? ⟨w.heap.size, 0, none⟩ = some (.int .i64 (n' : Int)) := hx.cellSome (by simp)
      have HX1 := Lib.hid hx
      clear hx
      go_wp2_with fail
      refine (s_l15IsOrder n' hm5 (HI'.out.ext HX1.out)).mono ?_
      rw [HOF.out]
      rintro e w2 ⟨rfl, hx⟩
      have c0' : w2.cell? ⟨w.heap.size, 0, none⟩ = some (.int .i64 (n' : Int)) := hx.ext.cellSome c0
      have HX2 := Lib.hid (HX1.out.trans hx.ext)
      have hs2 : w.heap.size < w2.heap.size := World.block_lt_of_cell? _ _ c0'
      clear hx c0
      go_wp2
      go_loopw [7, 8] (fun s i wr => ∃ (k : Nat), k ≤ n' ∧ i = .int .i64 (k : Int) ∧ s = .int .i64 (sN ord k : Int) ∧ Hid (Row wr w2.heap.size 3 (mvL n' V ord k)) ∧ Hid (Ext (w.alloc (.cells #[.int .i64 (n' : Int), .slice (some ⟨bv, offv, none⟩) n cap] 26)) wr)) (fun _ i _ => n' - (intOf i).toNat)
      case atStart => exact ⟨0, Nat.zero_le _, rfl, rfl, Lib.hid (by unfold Row; rw [heap_alloc_new]; rfl), Lib.hid (HX2.out.trans (Ext.alloc _ _))⟩
      case round =>
        obtain ⟨k, hk, rfl, rfl, HR, HX3⟩ := hrel
        by_cases hlt : k < n'
        · have hst := ord_step hm5 (k := k) (by have := HL'.out; omega) (ordTo_less HOT.out (by have := HL'.out; omega))
          obtain ⟨hp, hpn, hs0, hs1, _, hadd⟩ := hst
          have x0 := (HX.out.trans HX3.out).cellSome (HCV.out (sN ord k) (by have := HNN.out; omega))
          have x1 := (HX.out.trans HX3.out).cellSome (HCV.out (sN ord (k + 1)) (by have := HNN.out; omega))
          have xo := (HX.out.trans HX3.out).cellSome (HCO.out k hlt)
          rw [hp] at xo
          have c0 : wr.cell? ⟨w.heap.size, 0, none⟩ = some (.int .i64 (n' : Int)) := HX3.out.cellSome (by simp)
          have c1 : wr.cell? ⟨w.heap.size, 1, none⟩ = some (.slice (some ⟨bv, offv, none⟩) n cap) := HX3.out.cellSome (by simp)
          have HMV := Lib.hid (show mvL n' V ord (k + 1) = (mvL n' V ord k).set (pos ord k) (V[sN ord (k + 1)]?.getD 0 - V[sN ord k]?.getD 0) from rfl)
          have hb0 := HVB.out (sN ord k)
          have hb1 := HVB.out (sN ord (k + 1))
          obtain ⟨y0, hy0⟩ : ∃ y, y = V[sN ord k]?.getD 0 := ⟨_, rfl⟩
          obtain ⟨y1, hy1⟩ : ∃ y, y = V[sN ord (k + 1)]?.getD 0 := ⟨_, rfl⟩
          rw [← hy0] at x0 hb0
          rw [← hy1] at x1 hb1
          rw [← hy0, ← hy1] at HMV
          obtain ⟨s0, hs0e⟩ : ∃ y, y = sN ord k := ⟨_, rfl⟩
          obtain ⟨s1, hs1e⟩ : ∃ y, y = sN ord (k + 1) := ⟨_, rfl⟩
          obtain ⟨j, hje⟩ : ∃ y, y = pos ord k := ⟨_, rfl⟩
          rw [← hs0e] at x0 hs0 hadd
          rw [← hs1e] at x1 hs1 hadd
          rw [← hje] at xo hpn hadd HMV
          have hadd' := hadd.symm
          have hpj := pow_pos j
          have hpj5 := pow_le5 j (by omega)
          have HS1 := Lib.hid hs1e
          have hn2 : n = cN n' := HNN.out
          have HN2 := Lib.hid hn2
          have hs0n : s0 < n := by omega
          have hs1n : s1 < n := by omega
          have hold := HR.out.cell (k := j) (by rw [mvL_len]; exact hpn)
          have hfree := HR.out.free j
          clear hadd hp hy0 hy1 hs1e hje hn2 hs0 hs1
          rw [← hs0e]
          clear hs0e
          go_wp2_with (first | (go_at_call 65; refine (s_l2B j (by omega) _).mono ?_; rintro e w' ⟨rfl, rfl⟩))
          go_still_tail 17, (by kernel_rfl)
          change wpList _ _ _ _ _ wr.drew
          go_wp2
          go_roundw
          case rel =>
            refine ⟨k + 1, by omega, by go_num, by rw [HS1.out], Lib.hid ?_, Lib.hid ((HX3.out.trans (Ext.drew wr)).setCell (by simp; omega) _)⟩
            rw [HMV.out]
            exact (HR.out.ext (Ext.drew wr)).set j _
          case measure => simp [intOf]; omega
        · have hkn : k = n' := by omega
          subst hkn
          go_wp2
          refine bodyPost_ret (v := .tuple #[.slice (some ⟨w2.heap.size, 0, none⟩) k k, .bool true]) (by simp [results, Try.results23, go_sem]) rfl ?_
          refine ⟨⟨_, by rw [HM.out], ?_⟩, HX.out.trans HX3.out⟩
          unfold margL
          rw [HM.out, if_pos rfl, HL'.out, Int.toNat_natCast]
          exact HR.out.own (by omega) (mvL_len _ _ _ _) (by omega)
theorem game_bound {p : Int} {V : List Int} (h : gameOk p V = true) : ∀ i : Nat, -500 ≤ V[i]?.getD 0 ∧ V[i]?.getD 0 ≤ 500 := fun i => by
  obtain ⟨_, _, _, _, _, _, hVb⟩ := gameOk_len h
  by_cases hi : i < V.length
  · have := hVb _ (List.getElem_mem hi); simpa [hi] using this
  · simp [List.getElem?_eq_none (by omega : V.length ≤ i)]
set_option maxRecDepth 100000 in
set_option maxHeartbeats 4000000 in
theorem i_marginals {w : World} {m : Nat} {a a' : Option Addr} {n cap cap' : Nat} {V ord : List Int} (h : Ints w a n cap V) (h' : Ints w a' m cap' ord) (hg : gameOk (m : Int) V = true) (ho : ordTo (m : Int) ord m = true) :
    Calls Try.prog 82 #[pair (m : Int) a n cap, .slice a' m cap'] w fun e w' => ∃ v, e = .returned v ∧ OwnI w' w.heap.size v (mvL m V ord m) ∧ Ext w w' := by
  have HX := Lib.hid (Ext.alloc w (.cells #[.int .i64 (m : Int), .slice a n cap] 26))
  have HL' := Lib.hid h'.hlen
  have hmax := h.hmax
  have hcap := h.hcap
  have hmax' := h'.hmax
  have hcap' := h'.hcap
  have HVB := Lib.hid (game_bound hg)
  obtain ⟨m', hmm, hm1, hm5, hVn, _, _⟩ := gameOk_len hg
  obtain rfl : m = m' := by omega
  have hN := cN_le m hm5
  have hnN : n = cN m := by rw [← hVn]; exact h.hlen.symm
  have HOT := Lib.hid ho
  obtain ⟨bv, offv, rfl, hcv⟩ := h.cell 0 (by omega)
  obtain ⟨bo, offo, rfl, hco⟩ := h'.cell 0 (by omega)
  have HCV := Lib.hid hcv
  have HCO := Lib.hid hco
  have HNN := Lib.hid hnN
  have hmk := mk_ints m (by omega)
  clear hg ho hmm hVn hcv hco h h' hnN
  go_enter Try.func82, Try.ntmps82
  go_wp2
  go_loopw [6, 14] (fun s i wr => ∃ (k : Nat), k ≤ m ∧ i = .int .i64 (k : Int) ∧ s = .int .i64 (sN ord k : Int) ∧ Hid (Row wr (w.heap.size + 1) 3 (mvL m V ord k)) ∧ Hid (Ext (w.alloc (.cells #[.int .i64 (m : Int), .slice (some ⟨bv, offv, none⟩) n cap] 26)) wr)) (fun _ i _ => m - (intOf i).toNat)
  case atStart => exact ⟨0, Nat.zero_le _, rfl, rfl, Lib.hid (heapA_new _ _ _ (by simp)), Lib.hid (Ext.alloc _ _)⟩
  case round =>
    obtain ⟨k, hk, rfl, rfl, HR, HX3⟩ := hrel
    by_cases hlt : k < m
    · have hst := ord_step hm5 (k := k) (by have := HL'.out; omega) (ordTo_less HOT.out (by omega))
      obtain ⟨hp, hpn, hs0, hs1, hor, hadd⟩ := hst
      have hbv : bv < w.heap.size + 1 := Nat.lt_succ_of_lt (World.block_lt_of_cell? _ _ (HCV.out (sN ord k) (by have := HNN.out; omega)))
      have hbo : bo < w.heap.size + 1 := Nat.lt_succ_of_lt (World.block_lt_of_cell? _ _ (HCO.out k hlt))
      have x0 := (HX.out.trans HX3.out).cellSome (HCV.out (sN ord k) (by have := HNN.out; omega))
      have x1 := (HX.out.trans HX3.out).cellSome (HCV.out (sN ord (k + 1)) (by have := HNN.out; omega))
      have xo := (HX.out.trans HX3.out).cellSome (HCO.out k hlt)
      rw [hp] at xo
      have c0 : wr.cell? ⟨w.heap.size, 0, none⟩ = some (.int .i64 (m : Int)) := HX3.out.cellSome (by simp)
      have c1 : wr.cell? ⟨w.heap.size, 1, none⟩ = some (.slice (some ⟨bv, offv, none⟩) n cap) := HX3.out.cellSome (by simp)
      have HMV := Lib.hid (show mvL m V ord (k + 1) = (mvL m V ord k).set (pos ord k) (V[sN ord (k + 1)]?.getD 0 - V[sN ord k]?.getD 0) from rfl)
      have hb0 := HVB.out (sN ord k)
      have hb1 := HVB.out (sN ord (k + 1))
      obtain ⟨y0, hy0⟩ : ∃ y, y = V[sN ord k]?.getD 0 := ⟨_, rfl⟩
      obtain ⟨y1, hy1⟩ : ∃ y, y = V[sN ord (k + 1)]?.getD 0 := ⟨_, rfl⟩
      rw [← hy0] at x0 hb0
      rw [← hy1] at x1 hb1
      rw [← hy0, ← hy1] at HMV
      obtain ⟨s0, hs0e⟩ : ∃ y, y = sN ord k := ⟨_, rfl⟩
      obtain ⟨s1, hs1e⟩ : ∃ y, y = sN ord (k + 1) := ⟨_, rfl⟩
      obtain ⟨j, hje⟩ : ∃ y, y = pos ord k := ⟨_, rfl⟩
      rw [← hs0e] at x0 hs0 hadd hor
      rw [← hs1e] at x1 hs1 hadd hor
      rw [← hje] at xo hpn hadd HMV hor
      have HS1 := Lib.hid hs1e
      have hn2 : n = cN m := HNN.out
      have hs0n : s0 < n := by omega
      have hs1n : s1 < n := by omega
      have hold := HR.out.cell (k := j) (by rw [mvL_len]; exact hpn)
      have hfree := HR.out.free j
      have hj5 : j ≤ 5 := by omega
      have hj1 : j < m := hpn
      have hj2 : (0 : Int) ≤ (j : Int) := by omega
      have hsub : IntKind.i64.wrap (y1 - y0) = y1 - y0 := by rw [IntKind.wrap_i64]; omega
      have hpow := pow_pos j
      have hpow5 := pow_le5 j hj5
      have hwp := wrap_pow j hj5
      have hkwp := kwrap_pow j hj5
      clear hadd hp hy0 hy1 hs1e hje hn2 hs0 hs1
      rw [← hs0e]
      clear hs0e
      go_wp2_with fail
      refine wp_region_held_drew (S := (fun w' => ∀ b o : Nat, b < w.heap.size + 1 → w'.cell? ⟨b, o, none⟩ = wr.cell? ⟨b, o, none⟩)) (by kernel_rfl) ?_ (fun hHeld => ?_)
      · (intro b o _; rfl)
      refine tk (i := 0) (h := ?_)
      try simp only [Act.put, sA, sB, sC]
      refine tk (i := 1) (h := ?_)
      try simp only [Act.put, sA, sB, sC]
      refine tk (i := 2) (h := ?_)
      try simp only [Act.put, sA, sB, sC]
      refine tk (i := 3) (h := ?_)
      try simp only [Act.put, sA, sB, sC]
      refine tk (i := 4) (h := ?_)
      try simp only [Act.put, sA, sB, sC]
      refine tk (i := 5) (h := ?_)
      try simp only [Act.put, sA, sB, sC]
      refine tk (i := 6) (h := ?_)
      try simp only [Act.put, sA, sB, sC]
      refine tk (i := 7) (h := ?_)
      try simp only [Act.put, sA, sB, sC]
      refine tk (i := 8) (h := ?_)
      try simp only [Act.put, sA, sB, sC]
      refine tk (i := 9) (h := ?_)
      try simp only [Act.put, sA, sB, sC]
      refine tk (i := 10) (h := ?_)
      try simp only [Act.put, sA, sB, sC]
      refine tk (i := 11) (h := ?_)
      try simp only [Act.put, sA, sB, sC]
      refine tk (i := 12) (h := ?_)
      try simp only [Act.put, sA, sB, sC]
      refine tk (i := 13) (h := ?_)
      try simp only [Act.put, sA, sB, sC]
      refine tk (i := 14) (h := ?_)
      try simp only [Act.put, sA, sB, sC]
      refine tk (i := 15) (h := ?_)
      try simp only [Act.put, sA, sB, sC]
      refine tk (i := 16) (h := ?_)
      try simp only [Act.put, sA, sB, sC]
      refine rd (i := 17) (h := fun K hK => ?_)
      go_simp
      refine hK.out _ _ ?_ (fun hHeld => ?_)
      · (intro b o hb; exact World.cell?_setCell_other _ _ _ _ (fun e => by have := congrArg Addr.block e; simp at this; omega))
      clear hK K
      try simp only [Act.put, sA, sB, sC]
      refine wpAnyH_done (by kernel_rfl) ?_ _
      go_wp2
      clear hwp hkwp hor
      go_roundw
      case rel =>
        refine ⟨k + 1, by omega, by go_num, by rw [HS1.out], Lib.hid ?_, Lib.hid ((HX3.out.trans (Ext.drew wr)).setCell (by simp) _)⟩
        rw [HMV.out]
        exact (HR.out.ext (Ext.drew wr)).set j _
      case measure => simp [intOf]; omega
    · have hkn : k = m := by omega
      subst hkn
      go_wp2
      go_ret
      exact ⟨_, rfl, HR.out.own (by omega) (mvL_len _ _ _ _) (by omega), HX.out.trans HX3.out⟩
theorem isOrd_false {n : Int} {ord : List Int} {k : Nat} (h : (inB (ord[k]?.getD 0) 0 (n - 1) && !hasI (ord.take k) (ord[k]?.getD 0)) = false) (hk : k < ord.length) : isOrd n ord = false := by
  unfold isOrd; rw [ordTo_false h hk]; rfl
set_option maxRecDepth 100000 in
set_option maxHeartbeats 4000000 in
theorem i_MarginalVector {w : World} {p : Int} {a a' : Option Addr} {n n' cap cap' : Nat} {V ord : List Int} (h : Ints w a n cap V) (h' : Ints w a' n' cap' ord) :
    Calls Try.prog 28 #[pair p a n cap, .slice a' n' cap'] w fun e w' => ListB w' w.heap.size e (margL p V ord) (margOk p V ord) ∧ Ext w w' := by
  have hi := h.alloc (.cells #[.int .i64 p, .slice a n cap] 26)
  have HX := Lib.hid (Ext.alloc w (.cells #[.int .i64 p, .slice a n cap] 26))
  have HL := Lib.hid h.hlen
  have HL' := Lib.hid h'.hlen
  have HV := Lib.hid (i_IsValidGame (p := p) hi)
  have hmax := h.hmax
  have hcap := h.hcap
  have hmax' := h'.hmax
  have hcap' := h'.hcap
  cases hv : gameOk p V
  · rw [hv] at HV
    have HM := Lib.hid (show margOk p V ord = false by unfold margOk; rw [hv]; rfl)
    clear hv
    go_enter Try.func28, Try.ntmps28
    go_wp2_with fail
    refine HV.out.mono ?_
    rintro e w1 ⟨rfl, hx⟩
    go_wp2
    refine bodyPost_ret (v := .tuple #[.slice none 0 0, .bool false]) (by simp [results, Try.results28, go_sem]) rfl ?_
    exact ⟨⟨_, by rw [HM.out], by unfold margL; rw [HM.out]; exact OwnI.nil _ _⟩, HX.out.trans hx⟩
  · rw [hv] at HV
    obtain ⟨m, rfl, hm1, hm5, hVn, hV0, hVb⟩ := gameOk_len hv
    have HG := Lib.hid hv
    by_cases hlen : n' = m
    · subst hlen
      have HI' := Lib.hid (h'.ext HX.out)
      have HI := Lib.hid hi
      have hint : IntKind.i64.wrap ((n' : Int) - 1) = (n' : Int) - 1 := by rw [IntKind.wrap_i64]; omega
      have hN := cN_le n' hm5
      obtain ⟨bo, offo, rfl, hco⟩ := h'.cell 0 (by omega)
      have HCO := Lib.hid hco
      clear hv hV0 hVb hVn h h' hi hco
      go_enter Try.func28, Try.ntmps28
      go_wp2_with fail
      refine HV.out.mono ?_
      rintro e w1 ⟨rfl, hx⟩
      have c0 : w1.cell? ⟨w.heap.size, 0, none⟩ = some (.int .i64 (n' : Int)) := hx.cellSome (by simp)
      have c1 : w1.cell? ⟨w.heap.size, 1, none⟩ = some (.slice a n cap) := hx.cellSome (by simp)
      have HX1 := Lib.hid hx
      clear hx
      go_wp2
      go_loopw [6, 21] (fun s i wr => ∃ (k : Nat), k ≤ n' ∧ i = .int .i64 (k : Int) ∧ s = .int .i64 (sN ord k : Int) ∧ Hid (ordTo (n' : Int) ord k = true) ∧ wr = w1) (fun _ i _ => n' - (intOf i).toNat)
      case atStart => exact ⟨0, Nat.zero_le _, rfl, rfl, Lib.hid (by simp [ordTo]), rfl⟩
      case round =>
        obtain ⟨k, hk, rfl, rfl, HO, rfl⟩ := hrel
        by_cases hlt : k < n'
        · have xo := (HX.out.trans HX1.out).cellSome (HCO.out k hlt)
          have HKL := Lib.hid (show k < ord.length by have := HL'.out; omega)
          obtain ⟨x, hxe⟩ : ∃ x, x = ord[k]?.getD 0 := ⟨_, rfl⟩
          rw [← hxe] at xo
          have HXE := Lib.hid hxe
          clear hxe
          cases hb : inB x 0 ((n' : Int) - 1)
          · have HM := Lib.hid (show margOk (n' : Int) V ord = false by unfold margOk; rw [isOrd_false (k := k) (by rw [← HXE.out, hb]; rfl) HKL.out]; simp)
            go_wp2_with (first | (go_at_call 69; refine (i_within _ _ _ _).mono ?_; rintro e w' ⟨rfl, rfl⟩))
            refine bodyPost_ret (v := .tuple #[.slice none 0 0, .bool false]) (by simp [results, Try.results28, go_sem]) rfl ?_
            exact ⟨⟨_, by rw [HM.out], by unfold margL; rw [HM.out]; exact OwnI.nil _ _⟩, HX.out.trans HX1.out⟩
          · have hbb : 0 ≤ x ∧ x ≤ (n' : Int) - 1 := by unfold inB at hb; simpa using hb
            have inv := ord_inv hm5 k (by have := HKL.out; omega) HO.out
            obtain ⟨j, rfl⟩ : ∃ j : Nat, x = (j : Int) := ⟨x.toNat, by omega⟩
            have hjn : j < n' := by omega
            have hbt := bit_test (sN ord k : Int) j (by omega) (by omega)
            rw [inv.2 j (by omega)] at hbt
            have HO1 := Lib.hid (ordTo_succ (n' : Int) ord k)
            rw [HO.out, ← HXE.out, hb] at HO1
            cases hh : hasI (ord.take k) (j : Int)
            · rw [hh] at HO1 hbt
              have hst := ord_step hm5 HKL.out HO1.out
              have hpj : pos ord k = j := by unfold pos; rw [← HXE.out]; simp
              rw [hpj] at hst
              obtain ⟨_, _, hs0, hs1, hor, _⟩ := hst
              obtain ⟨s0, hs0e⟩ : ∃ y, y = sN ord k := ⟨_, rfl⟩
              obtain ⟨s1, hs1e⟩ : ∃ y, y = sN ord (k + 1) := ⟨_, rfl⟩
              rw [← hs0e] at hs0 hor hbt
              rw [← hs1e] at hs1 hor
              have HS1 := Lib.hid hs1e
              have hpow := pow_pos j
              have hpow5 := pow_le5 j (by omega)
              have hs032 : (s0 : Int) ≤ 32 := by omega
              have hj0 : (0 : Int) ≤ (j : Int) := by omega
              have hj4 : (j : Int) ≤ 4 := by omega
              have hwp := wrap_pow j (by omega)
              rw [← hs0e]
              clear hs0e hs1e hbb inv hpj hh
              go_wp2_with (first | (go_at_call 69; refine (i_within _ _ _ _).mono ?_; rintro e w' ⟨rfl, rfl⟩))
              clear hwp hor hbt
              go_roundw
              case rel => exact ⟨k + 1, by omega, by go_num, by rw [HS1.out], Lib.hid HO1.out, by simp⟩
              case measure => simp [intOf]; omega
            · rw [hh] at hbt
              have HM := Lib.hid (show margOk (n' : Int) V ord = false by unfold margOk; rw [isOrd_false (k := k) (by rw [← HXE.out, hb, hh]; rfl) HKL.out]; simp)
              obtain ⟨s0, hs0e⟩ : ∃ y, y = sN ord k := ⟨_, rfl⟩
              rw [← hs0e] at hbt
              have hs032 : (s0 : Int) ≤ 32 := by have := inv.1; omega
              have hj0 : (0 : Int) ≤ (j : Int) := by omega
              have hj4 : (j : Int) ≤ 4 := by omega
              rw [← hs0e]
              clear hs0e hbb inv hh
              go_wp2_with (first | (go_at_call 69; refine (i_within _ _ _ _).mono ?_; rintro e w' ⟨rfl, rfl⟩))
              refine bodyPost_ret (v := .tuple #[.slice none 0 0, .bool false]) (by simp [results, Try.results28, go_sem]) rfl ?_
              exact ⟨⟨_, by rw [HM.out], by unfold margL; rw [HM.out]; exact OwnI.nil _ _⟩, HX.out.trans HX1.out⟩
        · have hkn : k = n' := by omega
          subst hkn
          have HM := Lib.hid (show margOk (k : Int) V ord = true by unfold margOk isOrd; rw [HG.out, HL'.out, HO.out]; simp)
          have HMG := Lib.hid (i_marginals (HI.out.ext HX1.out) (HI'.out.ext HX1.out) HG.out HO.out)
          go_wp2_with fail
          refine HMG.out.mono ?_
          rintro e w3 ⟨v, rfl, ho, hx⟩
          obtain ⟨a3, n3, c3, rfl, N3⟩ := ho.var
          have HO3 := Lib.hid ho
          have hsz := (HX.out.trans HX1.out).size
          clear ho
          go_wp2
          refine bodyPost_ret (v := .tuple #[.slice a3 n3 c3, .bool true]) (by simp [results, Try.results28, go_sem]) rfl ?_
          refine ⟨⟨_, by rw [HM.out], ?_⟩, (HX.out.trans HX1.out).trans hx⟩
          unfold margL
          rw [HM.out, if_pos rfl, HL'.out, Int.toNat_natCast]
          exact HO3.out.mono (by omega)
    · have HM := Lib.hid (show margOk (m : Int) V ord = false by unfold margOk isOrd; rw [decide_eq_false (by have := HL'.out; omega)]; simp)
      have hne : ((n' : Int) != (m : Int)) = true := by simp; omega
      clear hv hlen
      go_enter Try.func28, Try.ntmps28
      go_wp2_with fail
      refine HV.out.mono ?_
      rintro e w1 ⟨rfl, hx⟩
      have c0 : w1.cell? ⟨w.heap.size, 0, none⟩ = some (.int .i64 (m : Int)) := hx.cellSome (by simp)
      have HX1 := Lib.hid hx
      clear hx
      go_wp2
      refine bodyPost_ret (v := .tuple #[.slice none 0 0, .bool false]) (by simp [results, Try.results28, go_sem]) rfl ?_
      exact ⟨⟨_, by rw [HM.out], by unfold margL; rw [HM.out]; exact OwnI.nil _ _⟩, HX.out.trans HX1.out⟩
end Go.Proofs.Ytgohdmnbnhehnaa
namespace Go.Proofs.Ytgohdmnbnhehnaa
set_option linter.unusedVariables false
set_option linter.unusedSimpArgs false
open Go.RowKit
theorem ordTo_prefix {n : Int} {p q : List Int} {k : Nat} (hk : k ≤ p.length) : ordTo n (p ++ q) k = ordTo n p k := by
  unfold ordTo
  rw [Bool.eq_iff_iff, List.all_eq_true, List.all_eq_true]
  refine forall_congr' fun i => forall_congr' fun hi => ?_
  have hi' : i < p.length := by have := List.mem_range.1 hi; omega
  rw [List.getElem?_append_left hi', List.take_append_of_le_length (by omega)]
theorem ordersF_ord (n : Nat) : ∀ (f : Nat) (p l : List Int), ordTo (n : Int) p p.length = true → l ∈ ordersF f n p → l.length = p.length + f ∧ ordTo (n : Int) l l.length = true
  | 0, p, l, hp, h => by
    simp only [ordersF, List.mem_singleton] at h
    subst h
    exact ⟨rfl, hp⟩
  | f + 1, p, l, hp, h => by
    simp only [ordersF, List.mem_flatMap, List.mem_range] at h
    obtain ⟨k, hk, hl⟩ := h
    split at hl
    · simp at hl
    · rename_i hh
      have hq : ordTo (n : Int) (p ++ [(k : Int)]) (p ++ [(k : Int)]).length = true := by
        rw [List.length_append, show p.length + [(k : Int)].length = p.length + 1 from rfl, ordTo_succ, ordTo_prefix (Nat.le_refl _), hp]
        simp only [Bool.true_and, List.getElem?_concat_length, Option.getD_some, Bool.and_eq_true, Bool.not_eq_true']
        refine ⟨by unfold inB; simp; omega, ?_⟩
        rw [List.take_append_of_le_length (Nat.le_refl _), List.take_length]
        simpa using hh
      have := ordersF_ord n f _ l hq hl
      simp at this ⊢
      exact ⟨by omega, this.2⟩
theorem ordersOf_ord (n : Nat) (h1 : 1 ≤ n) (h5 : n ≤ 5) (i : Nat) (hi : i < (ordersOf (n : Int)).length) :
    ((ordersOf (n : Int))[i]?.getD []).length = n ∧ ordTo (n : Int) ((ordersOf (n : Int))[i]?.getD []) n = true := by
  have hm : (ordersOf (n : Int))[i]?.getD [] ∈ ordersOf (n : Int) := by simp [hi]
  generalize (ordersOf (n : Int))[i]?.getD [] = l at hm
  unfold ordersOf at hm
  rw [if_pos (by omega), Int.toNat_natCast] at hm
  have := ordersF_ord n n [] l (by simp [ordTo]) hm
  simp at this
  exact ⟨this.1, by have h2 := this.2; rwa [this.1] at h2⟩
end Go.Proofs.Ytgohdmnbnhehnaa
