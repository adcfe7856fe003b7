import Derived.Test.YtdadoignenffgaaGreatDoorSvAllG30
import Derived.Test.YtdadoignenffgaaGreatDoorSvAllG3
import Derived.Test.YtdadoignenffgaaGreatDoorSvAllG39
import Derived.Deep.DeepCutAuto
import Derived.Test.YtdadoignenffgaaGreatDoorSvAllG2
import Derived.Deep.Slices
import Derived.ProofKit
import Derived.OpenShut
import Derived.ShutString
import Derived.ChangeOld
import Derived.Lib.SmallJoins
set_option linter.unusedVariables false
set_option linter.unusedSimpArgs false
namespace Go.Proofs.YtdadoignenffgaaGreatDoor
variable{V:j7}{w:World}
set_option maxHeartbeats 16000000
set_option maxRecDepth 100000
open Go.RowKit
def dY:Nat->Int
 | 0=>1
 | k+1=>((k:Int)+1)*dY k
def ci(n:Int):Int:=dY n.toNat
theorem gN(m:Nat)(h:m<=5):1<=dY m/\dY m<=120:=by
 have:m=0∨m=1∨m=2∨m=3∨m=4∨m=5:=by omega
 rcases this with rfl|rfl|rfl|rfl|rfl|rfl<;>decide
def Po(n i:Nat):Int:=dY i*dY (n-1-i)
theorem Pn(n i:Nat)(hn:n<=5)(hi:i<=5):0<=Po n i/\Po n i<=1000:=by
 have h1:∀n:Fin 6,∀i:Fin 6,0<=Po n.val i.val/\Po n.val i.val<=1000:=by decide +kernel
 exact h1 ⟨n,by omega⟩ ⟨i,by omega⟩
def Ft(n i:Nat):Int:=if i<=5 then Po n i else 0
theorem pY(n:Nat)(hn:n<=5)(i:Nat):-1000<=Ft n i/\Ft n i<=1000:=by
 unfold Ft;split
 ·have:=Pn n i hn (by assumption);omega
 ·omega
def ma(p:Int)(V:j7)(k:Nat):j4:=if aH p V=true then CH (Ft p.toNat) V (ci p) k else []
def fp(p:Int)(V:j7):j4:=ma p V p.toNat
theorem jD{p:Int}(k:Nat)(h:aH p V=false):ma p V k=[]:=by simp[ma,h]
theorem kU{p:Int}(k:Nat)(h:aH p V=true):ma p V k=CH (Ft p.toNat) V (ci p) k:=by simp[ma,h]
theorem ol(p:Int)(V:j7):(fp p V).length<=5:=by
 unfold fp;cases h:aH p V
 ·rw[jD _ h];simp
 ·obtain⟨n,rfl,_,h5,_⟩:=bF h;rw[kU _ h,kw];simpa using h5
theorem oN{n:Int}{j:Nat}(h1:j=0∨(j:Int)+1<=n)(h2:¬(j:Int)+2<=n):dY (j+1)=ci n:=by
 unfold ci
 rcases h1 with rfl|h1
 ·have:n.toNat=0∨n.toNat=1:=by omega
  rcases this with h|h<;>rw[h]<;>decide
 ·rw[show n.toNat=j+1 by omega]
theorem ki(n:Int)(hn:n<=5)(w:World):Calls Tryz.prog 67 #[.int .i64 n] w fun e w'=>e=.returned (.int .i64 (ci n))/\w=w':=by
 go_enter Tryz.func67,Tryz.ntmps67
 go_wp2
 go_loop [3,4] (fun o i=>∃j:Nat,b7 (j=0∨(j:Int)+1<=n)/\i=.int .i64 ((j:Int)+2)/\o=.int .i64 (dY (j+1))) (fun _ i=>(8-intOf i).toNat)
 case atStart=>exact⟨0,ae (.inl rfl),by simp,by rfl⟩
 case round =>
  obtain⟨j,HJ,rfl,G⟩:=hrel;obtain⟨T,E⟩:=b9 (dY (j+1));rw[<-E]at G;subst G;have HT:=ae E;clear E;have hj5:j<=4:=by have:=HJ.o;omega
  by_cases hlt:(j:Int)+2<=n
  ·have hmul:IntKind.i64.wrap (T*((j:Int)+2))=dY (j+2):=by
    have h1:T*((j:Int)+2)=dY (j+2):=by rw[HT.o];show _=(((j+1:Nat):Int)+1)*dY (j+1);rw[Int.mul_comm];congr 1
    have h2:=gN (j+2) e7;rw[h1,IntKind.wrap_i64];omega
   go_wp2
   go_round
   case rel=>exact⟨j+1,ae (.inr e7),by go_num,by rfl⟩
   case measure=>simp[intOf];omega
  ·have HE:=ae (oN HJ.o hlt)
   go_wp2
   go_ret;exact⟨aD (by rw[HT.o,HE.o]),rfl⟩
theorem iC(n:Int)(hn:n<=5)(w:World):Calls Tryz.prog 42 #[.int .i64 n] w fun e w'=>e=.returned (.int .i64 (ci n))/\w=w':=by
 go_enter Tryz.func42,Tryz.ntmps42
 go_wp2
 go_loop [3,4] (fun o i=>∃j:Nat,b7 (j=0∨(j:Int)+1<=n)/\i=.int .i64 ((j:Int)+2)/\o=.int .i64 (dY (j+1))) (fun _ i=>(8-intOf i).toNat)
 case atStart=>exact⟨0,ae (.inl rfl),by simp,by rfl⟩
 case round =>
  obtain⟨j,HJ,rfl,G⟩:=hrel;obtain⟨T,E⟩:=b9 (dY (j+1));rw[<-E]at G;subst G;have HT:=ae E;clear E;have hj5:j<=4:=by have:=HJ.o;omega
  by_cases hlt:(j:Int)+2<=n
  ·have hmul:IntKind.i64.wrap (T*((j:Int)+2))=dY (j+2):=by
    have h1:T*((j:Int)+2)=dY (j+2):=by rw[HT.o];show _=(((j+1:Nat):Int)+1)*dY (j+1);rw[Int.mul_comm];congr 1
    have h2:=gN (j+2) e7;rw[h1,IntKind.wrap_i64];omega
   go_wp2
   go_round
   case rel=>exact⟨j+1,ae (.inr e7),by go_num,by rfl⟩
   case measure=>simp[intOf];omega
  ·have HE:=ae (oN HJ.o hlt)
   go_wp2
   go_ret;exact⟨aD (by rw[HT.o,HE.o]),rfl⟩
theorem lJ(s n:Nat)(hs:s<=5)(h1:1<=n)(h5:n<=5){b:Nat}(hc:w.cell? ⟨b,0,none⟩=some (.int .i64 (n:Int))):Calls Tryz.prog 66 #[.int .i64 (s:Int),.pointer (some ⟨b,0,none⟩)] w fun e w'=>e=.returned (.int .i64 (Ft n s))/\Ext w w':=by
 have HV:=ae (show ci (s:Int)*ci ((n:Int)-1-(s:Int))=Ft n s by
  unfold Ft Po ci
  rw[if_pos hs,show((n:Int)-1-(s:Int)).toNat=n-1-s by omega];rfl)
 have xL:=gN s hs;have wU:=gN (n-1-s) e7;have E:1<=ci (s:Int)/\ci (s:Int)<=120:=by unfold ci;rw[Int.toNat_natCast];exact xL
 have hB1:1<=ci ((n:Int)-1-(s:Int))/\ci ((n:Int)-1-(s:Int))<=120:=by unfold ci;rw[show((n:Int)-1-(s:Int)).toNat=n-1-s by omega];exact wU
 have hm:=mj (x:=ci (s:Int)) (y:=ci ((n:Int)-1-(s:Int))) e7 e7 e7 e7;have e1:IntKind.i64.wrap (ci (s:Int)*ci ((n:Int)-1-(s:Int)))=Ft n s:=by rw[<-HV.o,IntKind.wrap_i64];omega
 have e2:IntKind.i64.wrap ((n:Int)-1)=(n:Int)-1:=by rw[IntKind.wrap_i64];omega
 have e3:IntKind.i64.wrap ((n:Int)-1-(s:Int))=(n:Int)-1-(s:Int):=by rw[IntKind.wrap_i64];omega
 clear E hB1 xL wU hm;go_enter Tryz.func66,Tryz.ntmps66
 go_wp2
 go_quiet ((first|(go_at_call 67;exact bK (ki _ e7 _))))
 go_wp2
 go_ret;exact⟨rfl,yU.ext ⟨_,rfl⟩⟩
theorem kB:IsGo Tryz.prog 66:=isGo Tryz.func66 e9 e9
theorem mA{x:Int}{a:j6}{m cap:Nat}(h:Ints w a m cap V):
 Calls Tryz.prog 24 #[pair x a m cap] w fun e w'=>(∃v,e=.returned (.tuple #[v,.bool (aH x V)])/\l9 w' w.heap.size v (fp x V))/\Ext w w':=by
 have hi:=h.alloc (.cells #[.int .i64 x,.slice a m cap] 32);have HX:=ae (Ext.alloc w (.cells #[.int .i64 x,.slice a m cap] 32));have HL:=ae h.hlen;have HI:=ae hi;have HV:=ae (dR (p:=x) hi);clear h hi;cases hv:aH x V
 ·rw[hv]at HV;have K3:=ae hv;clear hv;go_enter Tryz.func24,Tryz.ntmps24
  go_wp2_with fail;refine HV.o.mono ?_;rintro e w1 ⟨rfl,hx⟩
  go_wp2
  refine bodyPost_ret (v:=.tuple #[.slice none 0 0,.bool false]) (by simp[results,Tryz.results24,go_sem]) rfl ⟨⟨_,rfl,by unfold fp;rw[jD _ K3.o];exact l9.nil _ _⟩,HX.o.trans hx⟩
 ·rw[hv]at HV;obtain⟨n,rfl,h1,h5,hlen,_,Fc⟩:=bF hv;have K3:=ae hv;have hm:m=cN n:=by have:=HL.o;omega
  have HM:=ae hm;have O:=ae Fc;clear hv hlen Fc hm;go_enter Tryz.func24,Tryz.ntmps24
  go_wp2_with fail;refine HV.o.mono ?_;rintro e w1 ⟨rfl,hx⟩;have c0:w1.cell? ⟨w.heap.size,0,none⟩=some (.int .i64 (n:Int)):=hx.j9 e8;have c1:w1.cell? ⟨w.heap.size,1,none⟩=some (.slice a m cap):=hx.j9 e8;have X1:=ae (HX.o.trans hx);obtain⟨W,hW⟩:=b9 (w1.alloc (.cells #[.int .i64 (n:Int)] 3));have E:Ext w1 W:=by rw[hW];exact Ext.alloc _ _
  have N1:=ae ((HI.o.ext hx).ext E);have XW:=ae (X1.o.trans E);have G:W.cell? ⟨w1.heap.size,0,none⟩=some (.int .i64 (n:Int)):=by rw[hW];simp
  have HT:b7 (li Tryz.prog W 66 #[.pointer (some ⟨w1.heap.size,0,none⟩)] 6 (Ft n)):=ae fun s w2 hs vL=>lJ s n e7 h1 h5 (vL.j9 G)
  clear hx;go_upto_region 4 with fail;rw[<-hW];replace c0:=E.j9 c0;replace c1:=E.j9 c1;clear hW E;have k7:Ext W W.drew:=Ext.drew W;have k8:=ae (fun(w':World) (h:Ext W w')=>(⟨h.j9 c0,h.j9 c1,h.j9 G,h⟩:w'.cell? ⟨w.heap.size,0,none⟩=some (.int .i64 (n:Int))/\w'.cell? ⟨w.heap.size,1,none⟩=some (.slice a m cap)/\w'.cell? ⟨w1.heap.size,0,none⟩=some (.int .i64 (n:Int))/\Ext W w'));have J:=XW.o.size
  go_region_held3 (fun w'=>w'.cell? ⟨w.heap.size,0,none⟩=some (.int .i64 (n:Int))/\w'.cell? ⟨w.heap.size,1,none⟩=some (.slice a m cap)/\w'.cell? ⟨w1.heap.size,0,none⟩=some (.int .i64 (n:Int))/\Ext W w')
   (first
     | with_reducible exact k8.o _ k7)
   (first
     | (go_at_call 67
        (with_reducible refine(ki _ e7 _).mono ?_)
        rintro e w4 ⟨rfl,rfl⟩)
     | (go_at_call 65
        (with_reducible refine(sL (N1.o.ext k7) h1 h5 HM.o O.o (pY n h5) kB (HT.o.ext k7)).mono ?_)
        rintro e w5 ⟨⟨v5,rfl,I⟩,wX⟩;have K:=ae I;have k7:=k7.trans wX
        clear I wX)
     | fail)
  all_goals go_wp2_with fail
  all_goals refine bodyPost_ret (v:=.tuple #[v5,.bool true]) (by simp[results,Tryz.results24,go_sem]) rfl ⟨⟨_,rfl,?_⟩,XW.o.trans k7⟩
  all_goals
   unfold fp;rw[kU _ K3.o,Int.toNat_natCast];exact K.o.mono (by simpa using J)
theorem Sk{n q:Nat}(hq:q<=5):ci (q:Int)*ci ((n:Int)-(q:Int)-1)=Ft n q:=by
 unfold Ft Po ci;rw[if_pos hq,show((n:Int)-(q:Int)-1).toNat=n-1-q by omega];rfl
theorem oM{n:Int}(h:n<=5):1<=ci n/\ci n<=120:=gN _ e7
theorem mK{x:Int}{a:j6}{m cap:Nat}(h:Ints w a m cap V):
 Calls Tryz.prog 17 #[pair x a m cap] w fun e w'=>(∃v,e=.returned (.tuple #[v,.bool (aH x V)])/\l9 w' w.heap.size v (fp x V))/\Ext w w':=by
 obtain⟨W,hW⟩:=b9 (w.alloc (.cells #[.int .i64 x,.slice a m cap] 32));have U:=ae (show W.heap.size=w.heap.size+1 by rw[hW];simp);have HX:=ae (show Ext w W by rw[hW];exact Ext.alloc _ _);have Gr:=ae (show W.cell? ⟨w.heap.size,0,none⟩=some (.int .i64 x)by rw[hW];simp);have Lv:=ae (show W.cell? ⟨w.heap.size,1,none⟩=some (.slice a m cap)by rw[hW];simp)
 have HO:=ae (show l9 (W.alloc (.cells #[] 62)) (w.heap.size+1) (.slice (some ⟨w.heap.size+1,0,none⟩) 0 0) []by
  have:=l9.made (w.alloc (.cells #[.int .i64 x,.slice a m cap] 32)) (w.heap.size+1) e8
  rw[hW];simpa using this)
 have HL:=ae h.hlen;have HI:=ae (h.ext HX.o);have o0:=h.o0;have l8:=h.l8;have HV:=ae (dU (p:=x) (HI.o.ext (Ext.alloc W (.cells #[] 62))));clear h;cases hv:aH x V
 ·have K3:=ae hv;rw[hv,hW]at HV;clear hv;go_enter Tryz.func17,Tryz.ntmps17
  go_wp2_with fail;refine HV.o.mono ?_;rw[<-hW];rintro e w2 ⟨rfl,vL⟩
  go_wp2
  refine bodyPost_ret (v:=.tuple #[.slice (some ⟨w.heap.size+1,0,none⟩) 0 0,.bool false]) (by simp[results,Tryz.results17,go_sem]) rfl ⟨⟨_,rfl,by unfold fp;rw[jD _ K3.o];exact(HO.o.ext vL).mono e7⟩,HX.o.trans ((Ext.alloc _ _).trans vL)⟩
 obtain⟨n,rfl,h1,h5,hlen,_,Fc⟩:=bF hv;have K3:=ae hv;have hm:m=cN n:=by have:=HL.o;omega
 have hN:=cW n h5;have HM:=ae hm;have Ce:=ae Fc;have PZ:m<=32:=by omega
 rw[hv,hW]at HV;clear hv hlen Fc hm hN;go_enter Tryz.func17,Tryz.ntmps17
 go_wp2_with fail;refine HV.o.mono ?_;rw[<-hW];clear hW;rintro e w1 ⟨rfl,Z⟩;have vh:=ae ((Ext.alloc W (.cells #[] 62)).trans Z);have c0:=vh.o.j9 Gr.o;have vw:=ae (HO.o.ext Z);clear Z HV;go_wp2_with fail;clear c0
 go_loopg [4,6] n (fun gk o i wr=>∃(k:Nat) (a1:j6) (I p1:Nat),b7 (gk+k=n)/\i=.int .i64 (k:Int)/\o=.slice a1 I p1/\b7 (l9 wr (w.heap.size+1) (.slice a1 I p1) (CH (Ft n) V (ci (n:Int)) k))/\b7 (Ext W wr))
 case atStart=>exact⟨0,_,_,_,ae e7,rfl,rfl,ae (by rw[mR];exact vw.o),vh⟩
 case round =>
  obtain⟨g1,o6⟩:=b9 gk;subst o6;obtain⟨o8,o4⟩:=b9 wr;subst o4;obtain⟨k,a1,I,p1,HK,rfl,rfl,xN,G⟩:=hrel;have hsz:=G.o.size;rw[U.o]at hsz;have c1:=G.o.j9 Lv.o;have N1:=ae (HI.o.ext G.o);by_cases hlt:k<n
  ·have wq:r' (k:Int) 0 4=true:=by unfold r';simp;omega
   have HC:=ae (Sm k e7);have hp:=eR k;have J5:=fz k e7;go_wp2_with fail
   go_loopg [7,8] m (fun gk t i wr=>∃j:Nat,b7 (gk+j=m)/\i=.int .i64 (j:Int)/\t=.int .i64 (Bd (Ft n) V k j)/\b7 (Ext o8 wr))
   case atStart=>exact⟨0,ae e7,rfl,rfl,ae (Ext.refl _)⟩
   case round =>
    obtain⟨g2,wv⟩:=b9 gk;subst wv;obtain⟨wr2,vo⟩:=b9 wr;subst vo;obtain⟨j,HJ,rfl,ht,E⟩:=hrel;obtain⟨T,hT⟩:=b9 (Bd (Ft n) V k j);have TR:=mo Ce.o (pY n h5) k j;rw[<-hT]at ht TR;subst ht;have HT:=ae hT;clear hT;have c1':=E.o.j9 c1;by_cases wm:j<m
    ·have J:=ae (N1.o.ext E.o);obtain⟨b,off,he,hc⟩:=J.o.at wm;have JP:=ek Ce.o j;obtain⟨v1,xG⟩:=b9 (V[j]?.getD 0);rw[<-xG]at hc JP;have Zk:=ae xG;clear xG;subst he;have hb:=gR (j:Int) k e7 e7;cases hbit:bit (j:Int) k
     ·rw[hbit]at hb;have HB:=ae hbit;have AF:=ae hb;have hu:=Oc h5 (by rw[<-HM.o];exact wm) hlt hbit;obtain⟨u,O⟩:∃u:Nat,u=j+2^k:=⟨_,rfl⟩;have SM:(j:Int)+2^k=(u:Int):=by rw[O];simp
      have WM:u<m:=by rw[HM.o,O];exact hu
      obtain⟨b2,Wp,Ty,zC⟩:=J.o.at WM;simp only[Option.some.injEq,Addr.mk.injEq,and_true]at Ty;obtain⟨rfl,rfl⟩:=Ty;have SK:=ek Ce.o u;obtain⟨v2,Bt⟩:=b9 (V[u]?.getD 0);rw[<-Bt]at zC SK;have Uh:=ae Bt;have HU:=ae O;have CU:=rE j;obtain⟨q,hq⟩:=b9 (C6 j);rw[<-hq]at CU;have HQ:=ae hq;have B9:=Sk (n:=n) CU;have Kh:=oM (n:=(q:Int)) e7;have Iq:=oM (n:=(n:Int)-(q:Int)-1) e7;have Tj:=mj (x:=ci (q:Int)) (y:=ci ((n:Int)-(q:Int)-1)) e7 e7 e7 e7;obtain⟨Wt,Qs⟩:=b9 (Ft n q);have Q:=pY n h5 q;rw[<-Qs]at Q B9;have GC:=mj Q.1 Q.2 (y:=v2-v1) e7 e7;obtain⟨X,hX⟩:=b9 (Wt*(v2-v1));rw[<-hX]at GC;have Av:=ae hX;have VS:=ae Qs;have e0:IntKind.i64.wrap (ci (q:Int)*ci ((n:Int)-(q:Int)-1))=Wt:=by rw[<-B9,IntKind.wrap_i64];omega
      have e1:IntKind.i64.wrap (v2-v1)=v2-v1:=by rw[IntKind.wrap_i64];omega
      have e2:IntKind.i64.wrap (Wt*(v2-v1))=X:=by rw[<-hX,IntKind.wrap_i64];omega
      have e3:IntKind.i64.wrap ((j:Int)+2^k)=(u:Int):=by rw[SM,IntKind.wrap_i64];omega
      have e4:IntKind.i64.wrap (T+X)=T+X:=by rw[IntKind.wrap_i64];omega
      have e5:IntKind.i64.wrap ((n:Int)-(q:Int))=(n:Int)-(q:Int):=by rw[IntKind.wrap_i64];omega
      have e6:IntKind.i64.wrap ((n:Int)-(q:Int)-1)=(n:Int)-(q:Int)-1:=by rw[IntKind.wrap_i64];omega
      have SL:u<=32:=by omega
      have ZC:=ae (show(EK j 5:Int)=(q:Int)by rw[hq];rfl);clear Bt hbit hu SM O hb JP SK TR hX Qs Q GC Tj Kh Iq B9 hq hp J5;go_wp2_with (first|(go_at_call 40;refine(eg _ _ _ e7).mono ?_;rw[AF.o];rintro e w' ⟨rfl,rfl⟩)|(go_at_call 41;refine(I5 j e7 _).mono ?_;rw[ZC.o];rintro e w' ⟨rfl,rfl⟩))
      go_quiet ((first|(go_at_call 42;exact bK (iC _ e7 _))|(go_at_call 43;exact bK (HC.o _))))
      go_wp2
      go_roundg (g2-1)
      case measure=>have:=HJ.o;omega
      case rel=>exact⟨j+1,ae (j1 HJ.o),by go_num,by unfold Bd;rw[HB.o,<-HT.o,<-HU.o,<-Uh.o,<-Zk.o,<-HQ.o,<-VS.o,<-Av.o];simp[go_sem,e4],ae (E.o.trans (yU.ext ⟨_,rfl⟩))⟩
     ·rw[hbit]at hb;have HB:=ae hbit;have AF:=ae hb;clear hbit hb;go_wp2_with (first|(go_at_call 40;refine(eg _ _ _ e7).mono ?_;rw[AF.o];rintro e w' ⟨rfl,rfl⟩))
      go_roundg (g2-1)
      case measure=>have:=HJ.o;omega
      case rel=>exact⟨j+1,ae (j1 HJ.o),by go_num,by unfold Bd;rw[HB.o,<-HT.o];simp,E⟩
    ·have Cw:m=j:=by have:=HJ.o;omega
     subst Cw;obtain⟨p,q,ok,vK⟩:∃p q ok,az T (ci (n:Int))=((p,q),ok):=⟨_,_,_,rfl⟩;have wI:=ae vK;have Gc:=ae (G.o.trans E.o);have vi:=ae (xN.o.ext E.o);have AN:=Gc.o.size;rw[U.o]at AN;have zE:=ae (fun(w':World)=>jO T (ci (n:Int)) w');rw[wI.o]at zE;have LH:(n:Int)<=5:=by omega
     clear vK
     go_wp2_with (first
      | (go_at_call 42;refine(iC _ LH _).mono ?_;rintro e w' ⟨rfl,rfl⟩)
      | (go_at_call 44;refine(zE.o _).mono ?_;rintro e w3 ⟨rfl,K⟩;have X3:=ae (Gc.o.trans K);have wV:=ae (vi.o.ext K);have BP:=K.size;clear K)
      | (at_builtin;refine aI rfl _ _ rfl (w.heap.size+1) (.slice a1 I p1) _ rfl ((wV.o.ext (Ext.alloc _ _)).ext (Ext.alloc _ _)) _ 1 _ [(p,q)] rfl (Rats.one' _ _ _ _ _ e8) (by rw[kw];omega) (by simp;omega) ?_;intro v2 w4 ho hg l7;have X5:=ae (ak (X3.o.trans ((Ext.alloc _ _).trans (Ext.alloc _ _))) hg (fun j hj=>by rw[U.o];exact(wV.o.lt j hj).1));obtain⟨a2,n2,c2,rfl,ED⟩:=ho.var;have vU:=ae ho;clear ho hg l7))
     go_roundg (g1-1)
     case measure=>have:=HK.o;omega
     case rel =>
      refine⟨k+1,a2,n2,c2,ae (j1 HK.o),by go_num,rfl,ae ?_,X5⟩;have:=vU.o;rw[mQ,NG,HL.o,<-HT.o,wI.o];exact this
  ·have vZ:n=k:=by have:=HK.o;omega
   subst vZ
   go_wp2
   refine bodyPost_ret (v:=.tuple #[.slice a1 I p1,.bool true]) (by simp[results,Tryz.results17,go_sem]) rfl ⟨⟨_,rfl,by unfold fp;rw[kU _ K3.o,Int.toNat_natCast];exact xN.o.mono e7⟩,HX.o.trans G.o⟩
end Go.Proofs.YtdadoignenffgaaGreatDoor
