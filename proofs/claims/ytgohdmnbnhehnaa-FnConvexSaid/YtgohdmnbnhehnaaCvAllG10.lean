import Derived.Test.YtgohdmnbnhehnaaCvAllG9
import Derived.Test.YtgohdmnbnhehnaaCvAllG3
import Derived.Test.YtgohdmnbnhehnaaCvAllG8
import Derived.Test.YtgohdmnbnhehnaaCvAllG0
import Derived.Test.YtgohdmnbnhehnaaCvAllG2
import Derived.Deep.RegionWith
import Derived.Test.YtgohdmnbnhehnaaCvAllG4
namespace Go.Proofs.Ytgohdmnbnhehnaa
set_option linter.unusedVariables false
set_option linter.unusedSimpArgs false
open Go.RowKit
theorem bit_big_nat : ∀ n : Fin 6, ∀ s : Fin 32, ∀ k : Fin 5, s.val < cN n.val → n.val ≤ k.val → bit ((s.val : Nat) : Int) k.val = false := by decide +kernel
theorem bit_big (n s k : Nat) (hn : n ≤ 5) (hs : s < cN n) (hk : n ≤ k) (hk5 : k < 5) : bit (s : Int) k = false :=
  bit_big_nat ⟨n, by omega⟩ ⟨s, by have := cN_le n hn; omega⟩ ⟨k, hk5⟩ hs hk
def memN (s : Int) (m : Nat) : List Nat := (List.range m).filter fun (k : Nat) => bit s k
def memI (s : Int) (m : Nat) : List Int := (memN s m).map fun (k : Nat) => (k : Int)
theorem memI_succ (s : Int) (m : Nat) : memI s (m + 1) = memI s m ++ (if bit s m then [(m : Int)] else []) := by
  unfold memI memN
  cases h : bit s m <;> simp [List.range_succ, h]
theorem memI_len (s : Int) (m : Nat) : (memI s m).length ≤ m := by
  unfold memI memN
  simpa using List.length_filter_le (fun (k : Nat) => bit s k) (List.range m)
theorem memI_at (s : Int) (i : Nat) (h : i < (memI s 5).length) : ∃ k : Nat, (memI s 5)[i]?.getD 0 = (k : Int) ∧ k < 5 ∧ bit s k = true ∧ (memN s 5)[i]? = some k := by
  have h' : i < (memN s 5).length := by simpa [memI] using h
  refine ⟨(memN s 5)[i], ?_, ?_⟩
  · simp [memI, h']
  · have hm : (memN s 5)[i] ∈ memN s 5 := List.getElem_mem h'
    have h2 := List.mem_filter.1 hm
    exact ⟨List.mem_range.1 h2.1, h2.2, by simp [h']⟩
end Go.Proofs.Ytgohdmnbnhehnaa
namespace Go.Proofs.Ytgohdmnbnhehnaa
set_option linter.unusedVariables false
set_option linter.unusedSimpArgs false
set_option maxRecDepth 100000
open Go.RowKit
def grandV (p : Int) (V : List Int) : Int := if gameOk p V = true then V[V.length - 1]?.getD 0 else 0
theorem grandV_no {p : Int} {V : List Int} (h : gameOk p V = false) : grandV p V = 0 := by unfold grandV; rw [h]; rfl
theorem grandV_ok {p : Int} {V : List Int} (h : gameOk p V = true) : grandV p V = V[V.length - 1]?.getD 0 := by unfold grandV; rw [if_pos h]
set_option maxHeartbeats 1000000 in
theorem s_GrandValue {w : World} {p : Int} {a : Option Addr} {n cap : Nat} {V : List Int} (h : Ints w a n cap V) :
    Calls Try.prog 75 #[pair p a n cap] w fun e w' => e = .returned (.int .i64 (grandV p V)) ∧ Ext w w' := by
  have hi := h.alloc (.cells #[.int .i64 p, .slice a n cap] 26)
  have HX := Lib.hid (Ext.alloc w (.cells #[.int .i64 p, .slice a n cap] 26))
  have HL := Lib.hid h.hlen
  have HI := Lib.hid hi
  have HV := Lib.hid (s_IsValidGame (p := p) hi)
  clear h hi
  cases hv : gameOk p V
  · rw [hv] at HV
    have HG := Lib.hid (grandV_no hv)
    clear hv
    go_enter Try.func75, Try.ntmps75
    go_wp2_with fail
    refine HV.out.mono ?_
    rintro e w1 ⟨rfl, hx⟩
    have X1 := Lib.hid (HX.out.trans hx)
    clear hx
    go_wp2_with fail
    go_ret
    exact ⟨ret_int HG.out.symm, X1.out⟩
  · rw [hv] at HV
    obtain ⟨q, rfl, h1, h5, hlen, _, hbd⟩ := gameOk_len hv
    have hN := cN_le q h5
    obtain ⟨u, rfl⟩ : ∃ u, n = u + 1 := ⟨n - 1, by have := HL.out; omega⟩
    have HG := Lib.hid (show grandV (q : Int) V = V[u]?.getD 0 by rw [grandV_ok hv, HL.out]; rfl)
    have hu32 : u ≤ 31 := by have := HL.out; omega
    clear hv hlen hbd hN
    go_enter Try.func75, Try.ntmps75
    go_wp2_with fail
    refine HV.out.mono ?_
    rintro e w1 ⟨rfl, hx⟩
    have c1 : w1.cell? ⟨w.heap.size, 1, none⟩ = some (.slice a (u + 1) cap) := hx.cellSome (by simp)
    obtain ⟨b, off, rfl, hc⟩ := (HI.out.ext hx).at (show u < u + 1 by omega)
    have hlen1 : ((u + 1 : Nat) : Int) - 1 = (u : Int) := by omega
    have X1 := Lib.hid (HX.out.trans hx)
    clear hx
    go_wp2_with fail
    go_ret
    exact ⟨ret_int HG.out.symm, X1.out⟩
end Go.Proofs.Ytgohdmnbnhehnaa
