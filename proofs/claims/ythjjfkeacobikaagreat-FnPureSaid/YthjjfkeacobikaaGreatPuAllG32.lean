import Derived.Test.YthjjfkeacobikaaGreatPuAllG31
import Derived.Test.YthjjfkeacobikaaGreatPuAllG7
import Derived.Test.YthjjfkeacobikaaGreatPuAllG27
import Derived.Test.YthjjfkeacobikaaGreatPuAllG30
set_option linter.unusedVariables false
set_option linter.unusedSimpArgs false
namespace Go.Proofs.YthjjfkeacobikaaGreat
def rowZ (n:Nat) (z:Nat->Rat) (r:List Int):Rat:=sumN (fun j=>((r[j]?.getD 0:Int):Rat)*z j) n
structure Steps (n:Nat) (z:Nat->Rat) (m c:Nat) (T:List (List Int)):Prop where
 len:T.length=m
 cm:c<=m
 wid:∀ i,i<m->(T[i]?.getD []).length=n
 ann:∀ i,i<m->rowZ n z (T[i]?.getD [])=0
 dia:∀ i,i<c->(T[i]?.getD [])[i]?.getD 0 ≠ 0
 low:∀ i j,i<m->j<i->j<c->(T[i]?.getD [])[j]?.getD 0=0
end Go.Proofs.YthjjfkeacobikaaGreat
