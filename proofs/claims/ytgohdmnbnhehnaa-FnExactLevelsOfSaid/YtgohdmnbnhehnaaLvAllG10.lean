import Derived.Test.YtgohdmnbnhehnaaLvAllG5
import Derived.Test.YtgohdmnbnhehnaaLvAllG7
import Derived.Test.YtgohdmnbnhehnaaLvAllG8
import Derived.Test.YtgohdmnbnhehnaaLvAllG0
namespace Go.Proofs.Ytgohdmnbnhehnaa
set_option linter.unusedVariables false
set_option linter.unusedSimpArgs false
set_option maxRecDepth 100000
open Go.RowKit
set_option maxHeartbeats 1000000 in
theorem i_GrandValue {w : World} {p : Int} {a : Option Addr} {n cap : Nat} {V : List Int} (h : Ints w a n cap V) :
 Calls Try.prog 154 #[pair p a n cap] w fun e w' => e = .returned (.int .i64 (grandV p V)) ∧ Ext w w' := by
 have hi := h.alloc (.cells #[.int .i64 p, .slice a n cap] 26)
 have HX := Lib.hid (Ext.alloc w (.cells #[.int .i64 p, .slice a n cap] 26))
 have HL := Lib.hid h.hlen
 have HI := Lib.hid hi
 have HV := Lib.hid (i_IsValidGame (p := p) hi)
 clear h hi
 cases hv : gameOk p V
 ·rw [hv] at HV
  have HG := Lib.hid (grandV_no hv)
  clear hv
  go_enter Try.func154, Try.ntmps154
  go_wp2_with fail
  refine HV.out.mono ?_
  rintro e w1 ⟨rfl, hx⟩
  have X1 := Lib.hid (HX.out.trans hx)
  clear hx
  go_wp2_with fail
  go_ret
  exact ⟨ret_int HG.out.symm, X1.out⟩
 ·rw [hv] at HV
  obtain ⟨q, rfl, h1, h5, hlen, _, hbd⟩ := gameOk_len hv
  have hN := cN_le q h5
  obtain ⟨u, rfl⟩ : ∃ u, n = u + 1 := ⟨n - 1, by have := HL.out; omega⟩
  have HG := Lib.hid (show grandV (q : Int) V = V[u]?.getD 0 by rw [grandV_ok hv, HL.out]; rfl)
  have hu32 : u ≤ 31 := by have := HL.out; omega
  clear hv hlen hbd hN
  go_enter Try.func154, Try.ntmps154
  go_wp2_with fail
  refine HV.out.mono ?_
  rintro e w1 ⟨rfl, hx⟩
  have c1 : w1.cell? ⟨w.heap.size, 1, none⟩ = some (.slice a (u + 1) cap) := hx.cellSome (by simp)
  obtain ⟨b, off, rfl, hc⟩ := (HI.out.ext hx).at (show u < u + 1 by omega)
  have hlen1 : ((u + 1 : Nat) : Int) - 1 = (u : Int) := by omega
  have X1 := Lib.hid (HX.out.trans hx)
  clear hx
  go_wp2_with fail
  go_ret
  exact ⟨ret_int HG.out.symm, X1.out⟩
structure Tb where
 rows : List (List (Int × Int))
 basis : List Int
 cols : Int
def Tb.row (t : Tb) (i : Nat) : List (Int × Int) := t.rows[i]?.getD []
def Tb.at (t : Tb) (i j : Nat) : Int × Int := (t.row i)[j]?.getD (0, 0)
def tbOk (t : Tb) : Bool :=
 inB t.cols 0 1000 && (decide (t.basis.length = t.rows.length) && (t.basis.all (fun b => inB b 0 (t.cols + t.rows.length - 1)) && t.rows.all (fun r => decide ((r.length : Int) = t.cols + t.rows.length + 1))))
structure Ph where
 t : Tb
 left : Nat
 costs : List (Int × Int)
 col : Int
structure LpR where
 status : Int
 X : List (Int × Int)
 Y : List (Int × Int)
 ray : List (Int × Int)
 value : Int × Int
 pivots : Int
deriving DecidableEq
def lpZero (s : Int) : LpR := ⟨s, [], [], [], (0, 0), 0⟩
end Go.Proofs.Ytgohdmnbnhehnaa
