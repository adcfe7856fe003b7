import Derived.Test.YtdadoignenffgaaGreatDoorSvAllG33
import Derived.Test.YtdadoignenffgaaGreatDoorSvAllG4
import Derived.Test.YtdadoignenffgaaGreatDoorSvAllG5
import Derived.Test.YtdadoignenffgaaGreatDoorSvAllG23
import Derived.Test.YtdadoignenffgaaGreatDoorSvAllG9
import Derived.Test.YtdadoignenffgaaGreatDoorSvAllG12
import Derived.Test.YtdadoignenffgaaGreatDoorSvAllG13
import Derived.Test.YtdadoignenffgaaGreatDoorSvAllG30
import Derived.Test.YtdadoignenffgaaGreatDoorSvAllG14
import Derived.Test.YtdadoignenffgaaGreatDoorSvAllG8
import Derived.Test.YtdadoignenffgaaGreatDoorSvAllG29
set_option linter.unusedVariables false
set_option linter.unusedSimpArgs false
namespace Go.Proofs.YtdadoignenffgaaGreatDoor
open Go.RowKit
abbrev RR:Type:=j8
def D6(l:List RR):Nat->List RR
 | 0=>[]
 | k+1=>if 0<k/\l[k]?.getD (0,0)=l[k-1]?.getD (0,0) then D6 l k else D6 l k++[l[k]?.getD (0,0)]
theorem R1{l:List RR}{k:Nat}(h:0<k)(e:l[k]?.getD (0,0)=l[k-1]?.getD (0,0)):D6 l (k+1)=D6 l k:=by rw[D6,if_pos ⟨h,e⟩]
theorem R0{l:List RR}{k:Nat}(h:¬(0<k/\l[k]?.getD (0,0)=l[k-1]?.getD (0,0))):D6 l (k+1)=D6 l k++[l[k]?.getD (0,0)]:=by rw[D6,if_neg h]
structure Cmpd(l M:List RR)(i j:Nat):Prop where
 len:M.length=l.length
 lt:i<j
 pos:0<i
 jl:j<=l.length
 lo:M.take i=D6 l j
 hi:∀k,i<=k->M[k]?.getD (0,0)=l[k]?.getD (0,0)
def Wm(n:Nat)(z:Nat->Rat)(r:j7):Rat:=r7 (fun j=>((r[j]?.getD 0:Int):Rat)*z j) n
structure Steps(n:Nat)(z:Nat->Rat)(m c:Nat)(T:j5):Prop where
 len:T.length=m
 cm:c<=m
 wid:∀i,i<m->(T[i]?.getD []).length=n
 ann:∀i,i<m->Wm n z (T[i]?.getD [])=0
 dia:∀i,i<c->(T[i]?.getD [])[i]?.getD 0≠0
 low:∀i j,i<m->j<i->j<c->(T[i]?.getD [])[j]?.getD 0=0
end Go.Proofs.YtdadoignenffgaaGreatDoor
namespace Go.Proofs.YtdadoignenffgaaGreatDoor
def Dr:Nat->Nat->Nat
 | 0,_=>1
 | n+1,B=>B*Dr n (2*B*B)
theorem KN{B p a c r:Int}(h0:0<=B)(h1:-B<=p/\p<=B)(h2:-B<=a/\a<=B)(h3:-B<=c/\c<=B)(h4:-B<=r/\r<=B):-(2*B*B)<=p*a-c*r/\p*a-c*r<=2*B*B:=by
 have e:∀x y:Int,-B<=x/\x<=B->-B<=y/\y<=B->-(B*B)<=x*y/\x*y<=B*B:=fun x y hx hy=>by
  have a1:=Int.mul_nonneg (show 0<=B-x by omega) (show 0<=B+y by omega);have a2:=Int.mul_nonneg (show 0<=B+x by omega) (show 0<=B-y by omega);have a3:=Int.mul_nonneg (show 0<=B-x by omega) (show 0<=B-y by omega);have a4:=Int.mul_nonneg (show 0<=B+x by omega) (show 0<=B+y by omega);constructor<;>grind
 have:=e p a h1 h2;have:=e c r h3 h4
 grind
theorem ND(b:Bool):0<=vX b/\vX b<=1:=by cases b<;>decide
end Go.Proofs.YtdadoignenffgaaGreatDoor
