import Derived.Test.YtgohdmnbnhehnaaLvAllG18
import Derived.Outline
namespace Go.Proofs.Ytgohdmnbnhehnaa
set_option linter.unusedVariables false
set_option linter.unusedSimpArgs false
set_option maxRecDepth 100000
open Go.RowKit
structure LrC (w : World) (xa : Option Addr) (xn xc : Nat) (ya : Option Addr) (yn yc : Nat) (ra : Option Addr) (rn rc : Nat) (r : LpR) : Prop where
 x : Rats w xa xn xc r.X
 y : Rats w ya yn yc r.Y
 ray : Rats w ra rn rc r.ray
theorem LrC.ext {w w' : World} {xa : Option Addr} {xn xc : Nat} {ya : Option Addr} {yn yc : Nat} {ra : Option Addr} {rn rc : Nat} {r : LpR} (h : LrC w xa xn xc ya yn yc ra rn rc r) (hx : Ext w w') : LrC w' xa xn xc ya yn yc ra rn rc r := ⟨h.x.ext hx, h.y.ext hx, h.ray.ext hx⟩
section
variable {w : World} {a : Option Addr} {na ca : Nat} {b : Option Addr} {nb cb : Nat} {c : Option Addr} {nc cc : Nat} {A : List (List Int)} {B : List Int} {C : List (Int × Int)}
 {xa : Option Addr} {xn xc : Nat} {ya : Option Addr} {yn yc : Nat} {ra : Option Addr} {rn rc : Nat} {r : LpR}
end
end Go.Proofs.Ytgohdmnbnhehnaa
