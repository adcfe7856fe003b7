/- All orders of the players: the reference's recursion and the program's closure make the same list. -/
import Derived.Test.YtgohdmnbnhehnaaOwn
namespace Go.Proofs.Ytgohdmnbnhehnaa
set_option linter.unusedVariables false
open Go.RowKit

theorem OwnI.made (w : World) (base : Nat) (hb : base ≤ w.heap.size) : OwnI (w.alloc (.cells #[] 3)) base (.slice (some ⟨w.heap.size, 0, none⟩) 0 0) [] :=
  World.ownsRow_lit w #[] 0 hb (by omega) rfl
theorem OwnV.made (w : World) (base : Nat) (hb : base ≤ w.heap.size) : OwnV (w.alloc (.cells #[] 24)) base (.slice (some ⟨w.heap.size, 0, none⟩) 0 0) [] :=
  World.ownsRow_lit w #[] 0 hb (by omega) rfl

/-- Is x among them? -/
def hasI (l : List Int) (x : Int) : Bool := l.contains x
theorem any_contains (x : Int) (l : List Int) : l.any (fun y => decide (x = y)) = hasI l x := by
  unfold hasI
  rw [Bool.eq_iff_iff, List.any_eq_true, List.contains_iff_exists_mem_beq]
  simp

set_option maxHeartbeats 400000 in
theorem s_l1HasInt {w : World} {a : Option Addr} {n cap : Nat} {l : List Int} (x : Int) (h : Ints w a n cap l) :
    Calls Try.prog 127 #[.slice a n cap, .int .i64 x] w fun e w' => e = .returned (.bool (hasI l x)) ∧ w = w' := by
  have hn := h.hcap
  have hm := h.hmax
  go_enter Try.func127, Try.ntmps127
  go_wp2
  go_loop [5] (fun i => ∃ k : Nat, k ≤ n ∧ i = .int .i64 k ∧ Hid (hasI (l.take k) x = false)) (fun i => n - (intOf i).toNat)
  case atStart => exact ⟨0, Nat.zero_le _, rfl, Lib.hid rfl⟩
  case round =>
    obtain ⟨k, hk, rfl, HA⟩ := hrel
    by_cases hlt : k < n
    · obtain ⟨b, off, rfl, hc⟩ := h.at hlt
      have HL := Lib.hid h.hlen
      by_cases hb : l[k]?.getD 0 = x
      · have hb1 : (l[k]?.getD 0 == x) = true := by simpa using hb
        have HB := Lib.hid hb
        clear hb
        go_wp2
        go_ret
        refine ⟨ret_bool ?_, rfl⟩
        symm
        have hkl : k < l.length := by have := HL.out; omega
        have := HB.out
        simp only [hkl, List.getElem?_eq_getElem, Option.getD_some] at this
        unfold hasI
        rw [List.contains_iff_mem]
        exact this ▸ List.getElem_mem hkl
      · have hb1 : (l[k]?.getD 0 == x) = false := by simpa using hb
        have HB := Lib.hid hb
        clear hb
        go_wp2
        go_round
        case rel => exact ⟨k + 1, by omega, by go_num, Lib.hid (by rw [take_snoc (by have := HL.out; omega)]; have h1 := HA.out; unfold hasI at h1 ⊢; rw [List.contains_append, h1]; simpa using fun e => HB.out e.symm)⟩
        case measure => simp [intOf]; omega
    · have HL := Lib.hid h.hlen
      go_wp2
      go_ret
      refine ⟨ret_bool ?_, rfl⟩
      have := HA.out
      rw [List.take_of_length_le (by have := HL.out; omega)] at this
      exact this.symm

/-- All orders that begin with p; f players are missing. -/
def ordersF : Nat → Nat → List Int → List (List Int)
  | 0, _, p => [p]
  | f + 1, n, p => (List.range n).flatMap fun (k : Nat) => if hasI p (k : Int) then [] else ordersF f n (p ++ [(k : Int)])
/-- What the first k players give. -/
def ordersTo (f n : Nat) (p : List Int) (k : Nat) : List (List Int) := (List.range k).flatMap fun (k : Nat) => if hasI p (k : Int) then [] else ordersF f n (p ++ [(k : Int)])
theorem ordersTo_zero (f n : Nat) (p : List Int) : ordersTo f n p 0 = [] := rfl
theorem ordersTo_succ (f n : Nat) (p : List Int) (k : Nat) : ordersTo f n p (k + 1) = ordersTo f n p k ++ if hasI p (k : Int) then [] else ordersF f n (p ++ [(k : Int)]) := by
  simp [ordersTo, List.range_succ]
theorem ordersTo_all (f n : Nat) (p : List Int) : ordersTo f n p n = ordersF (f + 1) n p := rfl
theorem ordersF_len (n : Nat) (hn : n ≤ 5) : ∀ (f : Nat) (p : List Int), (ordersF f n p).length ≤ 5 ^ f
  | 0, p => by simp [ordersF]
  | f + 1, p => by
    have key : ∀ k, (ordersTo f n p k).length ≤ k * 5 ^ f := by
      intro k
      induction k with
      | zero => simp [ordersTo_zero]
      | succ k ih =>
        rw [ordersTo_succ, List.length_append]
        have h2 : (if hasI p (k : Int) then [] else ordersF f n (p ++ [(k : Int)])).length ≤ 5 ^ f := by
          split
          · simp
          · exact ordersF_len n hn f _
        rw [Nat.succ_mul]
        omega
    have := key n
    rw [ordersTo_all] at this
    have h5 : n * 5 ^ f ≤ 5 * 5 ^ f := Nat.mul_le_mul_right _ hn
    rw [Nat.pow_succ]
    omega
theorem ordersTo_len (n : Nat) (hn : n ≤ 5) (f : Nat) (p : List Int) (k : Nat) (hk : k < n) : (ordersTo f n p k).length + 5 ^ f ≤ 5 * 5 ^ f := by
  have key : ∀ k, (ordersTo f n p k).length ≤ k * 5 ^ f := by
    intro k
    induction k with
    | zero => simp [ordersTo_zero]
    | succ k ih =>
      rw [ordersTo_succ, List.length_append]
      have h2 : (if hasI p (k : Int) then [] else ordersF f n (p ++ [(k : Int)])).length ≤ 5 ^ f := by
        split
        · simp
        · exact ordersF_len n hn f _
      rw [Nat.succ_mul]
      omega
  have h1 := key k
  have h5 : (k + 1) * 5 ^ f ≤ 5 * 5 ^ f := Nat.mul_le_mul_right _ (by omega)
  rw [Nat.succ_mul] at h5
  omega

/-- What is said of rows and of numbers, behind a growth that has written to a list of slices alone. -/
theorem RowsI.grown {w w' : World} {base base' : Nat} {v : Value} {vs : List Value} {L : List (List Int)} (h : RowsI w base vs L) {us : List Value} (hv : OwnV w base' v us) (hg : w.grownBy w' v.ownBlock) : RowsI w' base vs L :=
  h.keep fun i k hi hk => hg.block k ((h.row i hi).lt k hk).2 fun e => (h.row i hi).apart hv k hk e.symm
theorem OwnI.grown {w w' : World} {base base' : Nat} {v u : Value} {us : List Value} {l : List Int} (h : OwnI w base u l) (hv : OwnV w base' v us) (hg : w.grownBy w' v.ownBlock) : OwnI w' base u l :=
  h.keep fun k hk => hg.block k (h.lt k hk).2 fun e => h.apart hv k hk e.symm

theorem OwnSS.grownI {w w' : World} {base base' : Nat} {v u : Value} {l : List Int} {L : List (List Int)} (h : OwnSS w base v L) (hg : w.grownBy w' u.ownBlock) (hap : ∀ k, u.ownBlock = some k → w.heap.size ≤ k) : OwnSS w' base v L := by
  obtain ⟨vs, h1, h2⟩ := h
  have hx : Ext w w' := ⟨hg.os, hg.tape, hg.output, hg.size, fun k hk => hg.block k hk fun e => by have := hap k e.symm; omega⟩
  exact ⟨vs, h1.ext hx, h2.ext hx⟩

set_option maxHeartbeats 1000000 in
theorem s_l15Orders (n : Nat) (hn : n ≤ 5) : ∀ (f : Nat) (w : World) (base pb : Nat) (pa : Option Addr) (pn pc : Nat) (p : List Int) (oa : Option Addr) (on oc : Nat) (L : List (List Int)),
    p.length + f = n → OwnI w pb (.slice pa pn pc) p → OwnSS w base (.slice oa on oc) L → L.length + 5 ^ f ≤ 1000000 → base ≤ w.heap.size →
    Calls Try.prog 76 #[.int .i64 (n : Int), .slice pa pn pc, .slice oa on oc] w fun e w' => ∃ v', e = .returned v' ∧ OwnSS w' base v' (L ++ ordersF f n p) ∧ w.grownBy w' (Value.slice oa on oc).ownBlock ∧ Near w (.slice oa on oc) v' := by
  intro f
  induction f with
  | zero =>
    intro w base pb pa pn pc p oa on oc L hp hP hO hL hbase
    have hpn : pn = p.length := hP.ints.hlen.symm
    have heq : ((pn : Int) == (n : Int)) = true := by simp; omega
    obtain ⟨vs, hV, hR⟩ := hO
    have HP := Lib.hid hP
    have HV := Lib.hid hV
    have HR := Lib.hid hR
    have HI := Lib.hid (hP.ints.alloc (.cells #[] 3))
    have HO := Lib.hid (OwnI.made w w.heap.size (Nat.le_refl _))
    have HVL := Lib.hid hV.len
    have HRL := Lib.hid hR.len
    have HPN := Lib.hid hpn
    have hpn5 : pn ≤ 5 := by omega
    clear hP hV hR hpn hp
    go_enter Try.func76, Try.ntmps76
    go_wp2_with (first
      | (at_builtin; refine append_ints rfl _ _ rfl w.heap.size _ _ rfl HO.out _ pn _ p rfl HI.out (by simp; omega) (by simp) ?_; intro v1 w1 ho hg hnear; obtain ⟨a1, n1, c1, rfl, HN1⟩ := ho.var; have HO1 := Lib.hid ho; have HG1 := Lib.hid (ext_grown (Ext.alloc w (.cells #[] 3)) hg (fun k hk => Nat.le_of_eq (Option.some.inj (show some w.heap.size = some k from hk)))); clear ho hg hnear)
      | (at_builtin; refine append_slice rfl _ _ rfl base _ vs rfl ((HV.out.ext HG1.out).ext (Ext.alloc _ _)) _ _ 1 rfl (by simp; rfl) rfl (by have := HRL.out; omega) (by have := HG1.out.size; simp; omega) ?_; intro v2 w2 ho2 hg2 hnear2))
    go_ret
    have hx1 : Ext w (w1.alloc (.cells #[.slice a1 n1 c1] 24)) := HG1.out.trans (Ext.alloc _ _)
    refine ⟨v2, rfl, ⟨vs ++ [.slice a1 n1 c1], ho2, ?_⟩, grown_trans (grown_ext _ hx1) hg2 (fun k hk => .inl hk), fun k hk => (hnear2 k hk).imp id (fun h => Nat.le_trans hx1.size h)⟩
    exact ((HR.out.snoc HG1.out HO1.out hbase).ext (Ext.alloc _ _)).grown (HV.out.ext hx1) hg2
  | succ f ih =>
    intro w base pb pa pn pc p oa on oc L hp hP hO hL hbase
    have hpn : pn = p.length := hP.ints.hlen.symm
    have heq : ((pn : Int) == (n : Int)) = false := by simp; omega
    have HPN := Lib.hid hpn
    have hpn5 : pn ≤ 5 := by omega
    have HPF := Lib.hid hp
    have h5 := Nat.pow_succ 5 f
    have HL := Lib.hid hL
    clear hpn hp hL
    go_enter Try.func76, Try.ntmps76
    go_wp2
    go_loopw [2, 7] (fun o i wr => ∃ (k : Nat) (oa' : Option Addr) (on' oc' : Nat), k ≤ n ∧ i = .int .i64 (k : Int) ∧ o = .slice oa' on' oc' ∧ OwnSS wr base (.slice oa' on' oc') (L ++ ordersTo f n p k) ∧ OwnI wr pb (.slice pa pn pc) p ∧ Hid (w.grownBy wr (Value.slice oa on oc).ownBlock) ∧ Hid (Near w (.slice oa on oc) (.slice oa' on' oc'))) (fun _ i _ => n - (intOf i).toNat)
    case atStart => exact ⟨0, oa, on, oc, Nat.zero_le _, rfl, rfl, by rw [ordersTo_zero, List.append_nil]; exact hO, hP, Lib.hid (World.grownBy.refl _ _), Lib.hid (Near.refl _ _)⟩
    case round =>
      obtain ⟨k, oa', on', oc', hk, rfl, rfl, hO', hP', HG, HN⟩ := hrel
      have HO' := Lib.hid hO'
      have HP' := Lib.hid hP'
      clear hO' hP' hO hP
      by_cases hlt : k < n
      · cases hh : hasI p (k : Int)
        · have HH := Lib.hid hh
          have HI := Lib.hid (HP'.out.ints.alloc (.cells #[] 3))
          have HO := Lib.hid (OwnI.made wr wr.heap.size (Nat.le_refl _))
          go_wp2_with (first
            | (go_at_call 127; refine (s_l1HasInt _ HP'.out.ints).mono ?_; rintro e w' ⟨rfl, rfl⟩)
            | (at_builtin; refine append_ints rfl _ _ rfl wr.heap.size _ _ rfl HO.out _ pn _ p rfl HI.out (by simp; omega) (by simp) ?_; intro v1 w1 ho hg hnear; obtain ⟨a1, n1, c1, rfl, HN1⟩ := ho.var; have HO1 := Lib.hid ho; have HG1 := Lib.hid (ext_grown (Ext.alloc wr (.cells #[] 3)) hg (fun k hk => Nat.le_of_eq (Option.some.inj (show some wr.heap.size = some k from hk)))); clear ho hg hnear)
            | (at_builtin; refine append_ints rfl _ _ rfl wr.heap.size _ _ rfl (HO1.out.ext (Ext.alloc _ _)) _ 1 _ [(k : Int)] rfl (Ints.one _ _ _) (by simp; have := HPN.out; omega) (by have := HG1.out.size; simp; omega) ?_; intro v1 w2 ho hg hnear; obtain ⟨a2, n2, c2, rfl, HN2⟩ := ho.var; have HO2 := Lib.hid ho; have HX2 := Lib.hid (ext_grown (HG1.out.trans (Ext.alloc w1 (.cells #[.int .i64 (k : Int)] 3))) hg (fun j hj => (HO1.out.lt j hj).1)); clear ho hg hnear))
          have HLEN := ordersTo_len n hn f p k hlt
          have hx2 := HX2.out.size
          have HREC := Lib.hid (ih w2 base wr.heap.size a2 n2 c2 (p ++ [(k : Int)]) oa' on' oc' (L ++ ordersTo f n p k) (by simp; have := HPF.out; omega) HO2.out (HO'.out.ext HX2.out) (by have := HL.out; simp; omega) (Nat.le_trans hbase (Nat.le_trans HG.out.size HX2.out.size)))
          clear HLEN hx2
          refine HREC.out.mono ?_
          rintro e w3 ⟨v3, rfl, hO3, hg3, hn3⟩
          obtain ⟨a3, n3, c3, rfl, HN3'⟩ := hO3.var
          have HO3 := Lib.hid hO3
          have HG3 := Lib.hid hg3
          have HN3 := Lib.hid hn3
          clear hO3 hg3 hn3
          go_wp2
          go_roundw
          case rel =>
            refine ⟨k + 1, a3, n3, c3, by omega, by go_num, rfl, ?_, ?_, Lib.hid ?_, Lib.hid ?_⟩
            · rw [ordersTo_succ, HH.out]
              have := HO3.out
              simpa using this
            · obtain ⟨us, hu, _⟩ := HO'.out.ext HX2.out
              exact (HP'.out.ext HX2.out).grown hu HG3.out
            · refine grown_trans HG.out (grown_trans (grown_ext _ HX2.out) HG3.out (fun j hj => .inl hj)) ?_
              exact fun j hj => HN.out j hj
            · exact HN.out.trans (fun j hj => (HN3.out j hj).imp id (fun h => Nat.le_trans HX2.out.size h)) HG.out.size
          case measure => simp [intOf]; omega
        · have HH := Lib.hid hh
          go_wp2_with (first
            | (go_at_call 127; refine (s_l1HasInt _ HP'.out.ints).mono ?_; rintro e w' ⟨rfl, rfl⟩))
          go_roundw
          case rel =>
            refine ⟨k + 1, oa', on', oc', by omega, by go_num, rfl, ?_, HP'.out, HG, HN⟩
            rw [ordersTo_succ, HH.out]
            simpa using HO'.out
          case measure => simp [intOf]; omega
      · have hkn : k = n := by omega
        subst hkn
        go_wp2
        go_ret
        refine ⟨_, rfl, ?_, HG.out, HN.out⟩
        have := HO'.out
        rwa [ordersTo_all] at this

end Go.Proofs.Ytgohdmnbnhehnaa
