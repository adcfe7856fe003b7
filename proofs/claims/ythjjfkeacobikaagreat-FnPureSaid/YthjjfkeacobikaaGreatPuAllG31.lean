import Derived.Test.YthjjfkeacobikaaGreatPuAllG11
import Derived.Test.YthjjfkeacobikaaGreatPuAllG30
import Derived.Test.YthjjfkeacobikaaGreatPuAllG23
set_option linter.unusedVariables false
set_option linter.unusedSimpArgs false
namespace Go.Proofs.YthjjfkeacobikaaGreat
open Go.RowKit
abbrev RR:Type:=Int × Int
def cmpT (l:List RR):Nat->List RR
 | 0=>[]
 | k+1=>if 0<k/\l[k]?.getD (0,0)=l[k-1]?.getD (0,0) then cmpT l k else cmpT l k++[l[k]?.getD (0,0)]
theorem cmpT_skip {l:List RR} {k:Nat} (h:0<k) (e:l[k]?.getD (0,0)=l[k-1]?.getD (0,0)):cmpT l (k+1)=cmpT l k:=by rw [cmpT,if_pos ⟨h,e⟩]
theorem cmpT_take {l:List RR} {k:Nat} (h:¬ (0<k/\l[k]?.getD (0,0)=l[k-1]?.getD (0,0))):cmpT l (k+1)=cmpT l k++[l[k]?.getD (0,0)]:=by rw [cmpT,if_neg h]
structure Cmpd (l M:List RR) (i j:Nat):Prop where
 len:M.length=l.length
 lt:i<j
 pos:0<i
 jl:j<=l.length
 lo:M.take i=cmpT l j
 hi:∀ k,i<=k->M[k]?.getD (0,0)=l[k]?.getD (0,0)
end Go.Proofs.YthjjfkeacobikaaGreat
