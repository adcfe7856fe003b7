import Derived.Test.YthjjfkeacobikaaGreatPuAllG4
import Derived.Test.YthjjfkeacobikaaGreatPuAllG18
import Derived.Test.YthjjfkeacobikaaGreatPuAllG3
import Derived.Test.YthjjfkeacobikaaGreatPuAllG7
import Derived.Deep.DeepCutAuto
set_option linter.unusedVariables false
set_option linter.unusedSimpArgs false
namespace Go.Proofs.YthjjfkeacobikaaGreat
open Go.RowKit
def Tells (P:Program) (w:World) (fid:FuncId) (ca:Array Value) (m:Nat) (f:Nat->Int):Prop :=
 ∀ (s:Nat) (w1:World),s<m->Ext w w1->Calls P fid (#[.int .i64 (s:Int)]++ca) w1 fun e w2=>e=.returned (.int .i64 (f s))/\Ext w1 w2
set_option maxRecDepth 100000
theorem gJ {V:List Int} (hV:∀ x ∈ V,-500<=x/\x<=500) (k:Nat):-500<=V[k]?.getD 0/\V[k]?.getD 0<=500:=by
 by_cases h:k<V.length
 ·have:=hV _ (List.getElem_mem h);simpa [h] using this
 ·simp [List.getElem?_eq_none (by omega:V.length<=k)]
set_option maxHeartbeats 1000000 in
theorem s_l1Once {w:World} {cb:Nat} (h:Cur w cb) (n:Int) (hn:1<=n) :
 Calls Tryz.prog 93 #[.pointer (some ⟨cb,0,none⟩),.int .i64 n] w fun e w'=>(∃ b,e=.returned (.bool b))/\Cur w' cb/\w.grownBy w' (some cb):=by
 have H:=ae (ch h n hn);clear h;go_enter Tryz.func93,Tryz.ntmps93
 go_wp2_with fail;refine H.out.mono ?_;rintro e w1 ⟨⟨x,rfl,hx0,hx1⟩,hc,hg⟩;have HC:=ae hc;have HG:=ae hg;clear hc hg;by_cases hx:x=0
 ·subst hx;go_wp2_with fail;go_ret;exact ⟨⟨_,rfl⟩,HC.out,HG.out⟩
 ·have hx':(x == 0)=false:=by simp [hx]
  go_wp2_with fail;go_ret;exact ⟨⟨_,rfl⟩,HC.out,HG.out⟩
end Go.Proofs.YthjjfkeacobikaaGreat
