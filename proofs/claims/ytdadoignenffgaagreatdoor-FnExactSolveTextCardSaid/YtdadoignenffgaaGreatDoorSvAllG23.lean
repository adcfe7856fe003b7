import Derived.Test.YtdadoignenffgaaGreatDoorSvAllG5
set_option linter.unusedVariables false
set_option linter.unusedSimpArgs false
namespace Go.Proofs.YtdadoignenffgaaGreatDoor
variable{V:j7}
set_option maxHeartbeats 16000000
set_option maxRecDepth 100000
open Go.RowKit
def bI(p:Int)(V:j7):Int:=if aH p V=true then V[V.length-1]?.getD 0 else 0
theorem nj{p:Int}(h:aH p V=false):bI p V=0:=by unfold bI;rw[h];rfl
theorem fO{p:Int}(h:aH p V=true):bI p V=V[V.length-1]?.getD 0:=by unfold bI;rw[if_pos h]
theorem jz{w:World}{p:Int}{a:j6}{n cap:Nat}(h:Ints w a n cap V):
 Calls Tryz.prog 50 #[pair p a n cap] w fun e w'=>e=.returned (.int .i64 (bI p V))/\Ext w w':=by
 have hi:=h.alloc (.cells #[.int .i64 p,.slice a n cap] 32);have HX:=ae (Ext.alloc w (.cells #[.int .i64 p,.slice a n cap] 32));have HL:=ae h.hlen;have HI:=ae hi;have HV:=ae (dU (p:=p) hi);clear h hi;cases hv:aH p V
 ·rw[hv]at HV;have HG:=ae (nj hv);clear hv;go_enter Tryz.func50,Tryz.ntmps50
  go_wp2_with fail;refine HV.o.mono ?_;rintro e w1 ⟨rfl,hx⟩;have X1:=ae (HX.o.trans hx);clear hx;go_wp2_with fail;go_ret;exact⟨aD HG.o.symm,X1.o⟩
 ·rw[hv]at HV;obtain⟨q,rfl,h1,h5,hlen,_,Fc⟩:=bF hv;have hN:=cW q h5;obtain⟨u,rfl⟩:∃u,n=u+1:=⟨n-1,by have:=HL.o;omega⟩;have HG:=ae (show bI (q:Int) V=V[u]?.getD 0 by rw[fO hv,HL.o];rfl);have WN:u<=31:=by have:=HL.o;omega
  clear hv hlen Fc hN;go_enter Tryz.func50,Tryz.ntmps50
  go_wp2_with fail;refine HV.o.mono ?_;rintro e w1 ⟨rfl,hx⟩;have c1:w1.cell? ⟨w.heap.size,1,none⟩=some (.slice a (u+1) cap):=hx.j9 e8;obtain⟨b,off,rfl,hc⟩:=(HI.o.ext hx).at (show u<u+1 by omega);have DK:((u+1:Nat):Int)-1=(u:Int):=by omega
  have X1:=ae (HX.o.trans hx);clear hx;go_wp2_with fail;go_ret;exact⟨aD HG.o.symm,X1.o⟩
theorem jr{w:World}{p:Int}{a:j6}{n cap:Nat}(h:Ints w a n cap V):
 Calls Tryz.prog 72 #[pair p a n cap] w fun e w'=>e=.returned (.int .i64 (bI p V))/\Ext w w':=by
 have hi:=h.alloc (.cells #[.int .i64 p,.slice a n cap] 32);have HX:=ae (Ext.alloc w (.cells #[.int .i64 p,.slice a n cap] 32));have HL:=ae h.hlen;have HI:=ae hi;have HV:=ae (dR (p:=p) hi);clear h hi;cases hv:aH p V
 ·rw[hv]at HV;have HG:=ae (nj hv);clear hv;go_enter Tryz.func72,Tryz.ntmps72
  go_wp2_with fail;refine HV.o.mono ?_;rintro e w1 ⟨rfl,hx⟩;have X1:=ae (HX.o.trans hx);clear hx;go_wp2_with fail;go_ret;exact⟨aD HG.o.symm,X1.o⟩
 ·rw[hv]at HV;obtain⟨q,rfl,h1,h5,hlen,_,Fc⟩:=bF hv;have hN:=cW q h5;obtain⟨u,rfl⟩:∃u,n=u+1:=⟨n-1,by have:=HL.o;omega⟩;have HG:=ae (show bI (q:Int) V=V[u]?.getD 0 by rw[fO hv,HL.o];rfl);have WN:u<=31:=by have:=HL.o;omega
  clear hv hlen Fc hN;go_enter Tryz.func72,Tryz.ntmps72
  go_wp2_with fail;refine HV.o.mono ?_;rintro e w1 ⟨rfl,hx⟩;have c1:w1.cell? ⟨w.heap.size,1,none⟩=some (.slice a (u+1) cap):=hx.j9 e8;obtain⟨b,off,rfl,hc⟩:=(HI.o.ext hx).at (show u<u+1 by omega);have DK:((u+1:Nat):Int)-1=(u:Int):=by omega
  have X1:=ae (HX.o.trans hx);clear hx;go_wp2_with fail;go_ret;exact⟨aD HG.o.symm,X1.o⟩
end Go.Proofs.YtdadoignenffgaaGreatDoor
