/- Games made with a closure. -/
import Derived.Test.YtokpmflhgehicaaOrders
import Derived.Test.YtokpmflhgehicaaGame
namespace Go.Proofs.Ytokpmflhgehicaa
set_option linter.unusedVariables false
set_option linter.unusedSimpArgs false
open Go.RowKit

/-- A closure that answers f of a number, in every world that has grown from w; numbers below m alone. -/
def Tells (P : Program) (w : World) (fid : FuncId) (ca : Array Value) (m : Nat) (f : Nat → Int) : Prop :=
  ∀ (s : Nat) (w1 : World), s < m → Ext w w1 → Calls P fid (#[.int .i64 (s : Int)] ++ ca) w1 fun e w2 => e = .returned (.int .i64 (f s)) ∧ Ext w1 w2
theorem Tells.ext {P : Program} {w w' : World} {fid : FuncId} {ca : Array Value} {m : Nat} {f : Nat → Int} (h : Tells P w fid ca m f) (hx : Ext w w') : Tells P w' fid ca m f :=
  fun s w1 hs k => h s w1 hs (hx.trans k)

/-- f 0, f 1, .. -/
def rowF (f : Nat → Int) (m : Nat) : List Int := (List.range m).map f
theorem rowF_succ (f : Nat → Int) (m : Nat) : rowF f (m + 1) = rowF f m ++ [f m] := by simp [rowF, List.range_succ]
theorem rowF_len (f : Nat → Int) (m : Nat) : (rowF f m).length = m := by simp [rowF]
theorem rowF_ok {f : Nat → Int} {n : Nat} (h1 : 1 ≤ n) (h5 : n ≤ 5) (h0 : f 0 = 0) (hb : ∀ s, s < cN n → -500 ≤ f s ∧ f s ≤ 500) : gameOk (n : Int) (rowF f (cN n)) = true := by
  have hN := cN_le n h5
  unfold gameOk
  rw [rowF_len, cntC_nat n h5]
  simp only [Bool.and_eq_true, decide_eq_true_eq]
  refine ⟨?_, ?_, trivial, ?_⟩
  · rw [List.all_eq_true]
    intro x hx
    obtain ⟨s, hs, rfl⟩ := List.mem_map.1 hx
    have := hb s (List.mem_range.1 hs)
    unfold inB; simp; omega
  · unfold inB; simp; omega
  · have : 0 < cN n := by omega
    simp [rowF, this, h0]

theorem two_cell0 {w : World} {g : Nat} {x y : Value} {t : TypeId} (h : w.heap[g]? = some (.cells #[x, y] t (0, 0))) : w.cell? ⟨g, 0, none⟩ = some x := by rw [cell_of_row w g 0 _ t _ h]; rfl
theorem two_cell1 {w : World} {g : Nat} {x y : Value} {t : TypeId} (h : w.heap[g]? = some (.cells #[x, y] t (0, 0))) : w.cell? ⟨g, 1, none⟩ = some y := by rw [cell_of_row w g 1 _ t _ h]; rfl
theorem two_set {w : World} {g : Nat} {x y z : Value} {t : TypeId} (h : w.heap[g]? = some (.cells #[x, y] t (0, 0))) : (w.setCell ⟨g, 1, none⟩ z).heap[g]? = some (.cells #[x, z] t (0, 0)) := by
  rw [heap_setCell_same w g 1 _ t z h]; rfl

/-- A game in variables: what both sides return. -/
def GameV (w : World) (base : Nat) (e : Ending) (n : Nat) (l : List Int) (b : Bool) : Prop := ∃ v, e = .returned (.tuple #[.agg #[.int .i64 (n : Int), v], .bool b]) ∧ OwnI w base v l

set_option maxRecDepth 100000 in
set_option maxHeartbeats 4000000 in
theorem i_made {w : World} {n : Nat} {fid : FuncId} {ca : Array Value} {f : Nat → Int} (h1 : 1 ≤ n) (h5 : n ≤ 5) (hg : IsGo Try.prog fid) (hf : Tells Try.prog w fid ca (cN n) f)
    (h0 : f 0 = 0) (hb : ∀ s, s < cN n → -500 ≤ f s ∧ f s ≤ 500) :
    Calls Try.prog 109 #[.int .i64 (n : Int), .func (.func fid) #[] ca] w fun e w' => GameV w' w.heap.size e n (rowF f (cN n)) true ∧ Ext w w' := by
  have hN := cN_le n h5
  have hcf : ∀ (args : Array Value) (w : World), (callFunc fid args).run Try.prog w = .ok (.enter fid args) w := hg
  have HF := Lib.hid hf
  have HOK := Lib.hid (rowF_ok h1 h5 h0 hb)
  clear hf h0 hb hg
  go_enter Try.func109, Try.ntmps109
  go_wp2_with (first | (go_at_call 98; refine (i_CountC n h5 _).mono ?_; rintro e w' ⟨rfl, rfl⟩))
  go_loopw [12] (fun i wr => ∃ (k : Nat) (a1 : Option Addr) (n1 c1 : Nat), k ≤ cN n ∧ i = .int .i64 (k : Int) ∧ Hid (OwnI wr (w.heap.size + 1 + 1) (.slice a1 n1 c1) (rowF f k)) ∧ Hid (wr.heap[w.heap.size + 1]? = some (.cells #[.int .i64 (n : Int), .slice a1 n1 c1] 64 (0, 0))) ∧ Hid (Ext (w.alloc (.cells #[.int .i64 0, .slice none 0 0] 64)) wr)) (fun i _ => cN n - (intOf i).toNat)
  case atStart =>
    refine ⟨0, none, 0, 0, Nat.zero_le _, rfl, Lib.hid (by unfold rowF; exact ⟨rfl, .inl ⟨rfl, rfl⟩⟩), Lib.hid ?_, Lib.hid ?_⟩
    · exact heapA_new _ _ _ (by simp)
    · exact Ext.alloc _ _
  case round =>
    obtain ⟨k, a1, n1, c1, hk, rfl, HO, HB, HX⟩ := hrel
    have hg0 := two_cell0 HB.out
    have hg1 := two_cell1 HB.out
    have hsz := lt_of_block HB.out
    by_cases hlt : k < cN n
    · go_wp2_with fail
      go_region_law (first
        | (refine step_of_wp _ rfl (wp_append_ints _ _ rfl (w.heap.size + 1 + 1) _ _ rfl (HO1.out.ext (Ext.alloc _ _)) _ 1 _ [f k] rfl (Ints.one _ _ _) (by rw [rowF_len]; omega) (by simp; omega) ?_); intro v3 w3 ho3 hg3 hn3; obtain ⟨a3, n3, c3, rfl, HN3⟩ := ho3.var; have HO3 := Lib.hid ho3; have HX3 := Lib.hid (ext_grown ((HX.out.trans HX1.out).trans (Ext.alloc _ _)) hg3 (fun j hj => by have := (HO1.out.lt j hj).1; simp; omega)); have HB3 := Lib.hid ((hg3.block _ (by simp; omega) (fun e => by have := (HO1.out.lt _ e.symm).1; omega)).trans (((Ext.alloc w1 _).block _ hsz1).trans HB1.out)); have cg3 := two_cell1 HB3.out; have fg3 := frozen_of_row w3 (w.heap.size + 1) 1 _ _ HB3.out; clear ho3 hg3 hn3)
        | (go_simp; refine (HF.out k _ hlt (((Ext.alloc _ _).trans HX.out).trans (Ext.drew wr))).mono ?_; rintro e w1 ⟨rfl, hx⟩; have HX1 := Lib.hid ((Ext.drew wr).trans hx); have HO1 := Lib.hid (HO.out.ext HX1.out); have HB1 := Lib.hid ((HX1.out.block _ hsz).trans HB.out); have b1 := two_cell1 HB1.out; have hsz1 := lt_of_block HB1.out; clear hx))
      all_goals
        go_wp2
        go_roundw
        case rel =>
          refine ⟨k + 1, a3, n3, c3, by omega, by go_num, Lib.hid ?_, Lib.hid (two_set HB3.out), Lib.hid (HX3.out.setCell (by simp) _)⟩
          rw [rowF_succ]
          exact HO3.out.keep fun j hj => heap_setCell_other _ _ _ _ (by have := (HO3.out.lt j hj).1; simp; omega)
        case measure => simp [intOf]; omega
    · have hkn : k = cN n := by omega
      subst hkn
      have HV := Lib.hid (i_IsValidGame (p := (n : Int)) HO.out.ints)
      rw [HOK.out] at HV
      go_wp2_with fail
      refine HV.out.mono ?_
      rintro e w1 ⟨rfl, hx⟩
      have HO1 := Lib.hid (HO.out.ext hx)
      have hg0' := hx.cellSome hg0
      have hg1' := hx.cellSome hg1
      have HX1 := Lib.hid (HX.out.trans hx)
      have r0 : w1.cell? ⟨w.heap.size, 0, none⟩ = some (.int .i64 0) := HX1.out.cellSome (by simp)
      have r1 : w1.cell? ⟨w.heap.size, 1, none⟩ = some (.slice none 0 0) := HX1.out.cellSome (by simp)
      have f0 : w1.frozen? ⟨w.heap.size, 0, none⟩ = false := (HX1.out.frozens _ _ (by simp)).trans (by simp)
      have f1 : w1.frozen? ⟨w.heap.size, 1, none⟩ = false := (HX1.out.frozens _ _ (by simp)).trans (by simp)
      clear hx hg0 hg1
      go_wp2
      refine bodyPost_ret (v := .tuple #[.agg #[.int .i64 (n : Int), .slice a1 n1 c1], .bool true]) (by simp [results, Try.results109, go_sem, r0, r1]) rfl ⟨⟨_, rfl, ?_⟩, ?_⟩
      · refine HO1.out.mono (by omega) |>.keep fun j hj => ?_
        have := (HO1.out.lt j hj).1
        rw [heap_setCell_other _ _ _ _ (by simp; omega), heap_setCell_other _ _ _ _ (by simp; omega)]
      · exact ((((Ext.alloc _ _).trans HX1.out).setCell (by simp) _).setCell (by simp) _)

end Go.Proofs.Ytokpmflhgehicaa
