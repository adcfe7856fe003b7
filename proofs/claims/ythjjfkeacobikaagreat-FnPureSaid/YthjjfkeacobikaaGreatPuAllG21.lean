import Derived.Test.YthjjfkeacobikaaGreatPuAllG20
import Derived.Test.YthjjfkeacobikaaGreatPuAllG2
import Derived.Test.YthjjfkeacobikaaGreatPuAllG19
import Derived.Test.YthjjfkeacobikaaGreatPuAllG18
import Derived.Deep.DeepCutAuto
import Derived.Test.YthjjfkeacobikaaGreatPuAllG0
set_option linter.unusedVariables false
set_option linter.unusedSimpArgs false
namespace Go.Proofs.YthjjfkeacobikaaGreat
set_option maxRecDepth 100000
open Go.RowKit
set_option maxHeartbeats 1000000 in
theorem lQ {w:World} {p:Int} {a:Option Addr} {n cap:Nat} {V:List Int} (h:Ints w a n cap V) :
 Calls Tryz.prog 131 #[pair p a n cap] w fun e w'=>e=.returned (.int .i64 (dS p V))/\Ext w w':=by
 have hi:=h.alloc (.cells #[.int .i64 p,.slice a n cap] 29);have HX:=ae (Ext.alloc w (.cells #[.int .i64 p,.slice a n cap] 29));have HL:=ae h.hlen;have HI:=ae hi;have HV:=ae (fi (p:=p) hi);clear h hi;cases hv:bL p V
 ·rw [hv] at HV;have HG:=ae (kT hv);clear hv;go_enter Tryz.func131,Tryz.ntmps131
  go_wp2_with fail;refine HV.out.mono ?_;rintro e w1 ⟨rfl,hx⟩;have X1:=ae (HX.out.trans hx);clear hx;go_wp2_with fail;go_ret;exact ⟨aM HG.out.symm,X1.out⟩
 ·rw [hv] at HV;obtain ⟨q,rfl,h1,h5,hlen,_,hbd⟩:=dG hv;have hN:=eX q h5;obtain ⟨u,rfl⟩:∃ u,n=u+1:=⟨n-1,by have:=HL.out;omega⟩;have HG:=ae (show dS (q:Int) V=V[u]?.getD 0 by rw [kU hv,HL.out];rfl);have hu32:u<=31:=by have:=HL.out;omega
  clear hv hlen hbd hN;go_enter Tryz.func131,Tryz.ntmps131
  go_wp2_with fail;refine HV.out.mono ?_;rintro e w1 ⟨rfl,hx⟩;have c1:w1.cell? ⟨w.heap.size,1,none⟩=some (.slice a (u+1) cap):=hx.cellSome (by simp);obtain ⟨b,off,rfl,hc⟩:=(HI.out.ext hx).at (show u<u+1 by omega);have hlen1:((u+1:Nat):Int)-1=(u:Int):=by omega
  have X1:=ae (HX.out.trans hx);clear hx;go_wp2_with fail;go_ret;exact ⟨aM HG.out.symm,X1.out⟩
end Go.Proofs.YthjjfkeacobikaaGreat
