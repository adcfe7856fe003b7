import Derived.Test.YtalmoolkhcgmmaaGreatNqAltG7
import Derived.Test.YtalmoolkhcgmmaaGreatNqAltG8
import Derived.Test.YtalmoolkhcgmmaaGreatNqAltG3
import Derived.Deep.DeepCutAuto
import Derived.Test.YtalmoolkhcgmmaaGreatNqAltG2
import Derived.Test.YtalmoolkhcgmmaaGreatNqAltG0
import Derived.Deep.RegionWith
set_option linter.unusedVariables false
set_option linter.unusedSimpArgs false
namespace Go.Proofs.YtalmoolkhcgmmaaGreat
variable{V:j9}
set_option maxHeartbeats 16000000
set_option maxRecDepth 100000
open Go.RowKit
def fH:Nat->Int
 | 0=>1
 | k+1=>((k:Int)+1)*fH k
def eu(n:Int):Int:=fH n.toNat
theorem qo(m:Nat)(h:m<=5):1<=fH m/\fH m<=120:=by
 have:m=0∨m=1∨m=2∨m=3∨m=4∨m=5:=by omega
 rcases this with rfl|rfl|rfl|rfl|rfl|rfl<;>decide
def UX(n i:Nat):Int:=fH i*fH (n-1-i)
theorem Su(n i:Nat)(hn:n<=5)(hi:i<=5):0<=UX n i/\UX n i<=1000:=by
 have h1:∀n:Fin 6,∀i:Fin 6,0<=UX n.val i.val/\UX n.val i.val<=1000:=by decide +kernel
 exact h1 ⟨n,by omega⟩ ⟨i,by omega⟩
def KW(n i:Nat):Int:=if i<=5 then UX n i else 0
theorem KV(n:Nat)(hn:n<=5)(i:Nat):-1000<=KW n i/\KW n i<=1000:=by
 unfold KW;split
 ·have:=Su n i hn (by assumption);omega
 ·omega
def np(p:Int)(V:j9)(k:Nat):j6:=if aZ p V=true then FN (KW p.toNat) V (eu p) k else []
def KU(p:Int)(V:j9):j6:=np p V p.toNat
theorem wC{p:Int}(k:Nat)(h:aZ p V=false):np p V k=[]:=by simp[np,h]
theorem KT{p:Int}(k:Nat)(h:aZ p V=true):np p V k=FN (KW p.toNat) V (eu p) k:=by simp[np,h]
theorem Nb{n:Int}{j:Nat}(h1:j=0∨(j:Int)+1<=n)(h2:¬(j:Int)+2<=n):fH (j+1)=eu n:=by
 unfold eu
 rcases h1 with rfl|h1
 ·have:n.toNat=0∨n.toNat=1:=by omega
  rcases this with h|h<;>rw[h]<;>decide
 ·rw[show n.toNat=j+1 by omega]
theorem ju(n:Int)(hn:n<=5)(w:World):Calls Tryz.prog 91 #[.int .i64 n] w fun e w'=>e=.returned (.int .i64 (eu n))/\w=w':=by
 go_enter Tryz.func91,Tryz.ntmps91
 go_wp2
 go_loop [3,4] (fun o i=>∃j:Nat,b7 (j=0∨(j:Int)+1<=n)/\i=.int .i64 ((j:Int)+2)/\o=.int .i64 (fH (j+1))) (fun _ i=>(8-intOf i).toNat)
 case atStart=>exact⟨0,ae (.inl rfl),by simp,by rfl⟩
 case round =>
  obtain⟨j,I,rfl,hT⟩:=hrel;obtain⟨T,G⟩:=b8 (fH (j+1));rw[<-G]at hT;subst hT;have HT:=ae G;clear G;have hj5:j<=4:=by have:=I.o;omega
  by_cases hlt:(j:Int)+2<=n
  ·have hmul:IntKind.i64.wrap (T*((j:Int)+2))=fH (j+2):=by
    have h1:T*((j:Int)+2)=fH (j+2):=by rw[HT.o];show _=(((j+1:Nat):Int)+1)*fH (j+1);rw[Int.mul_comm];congr 1
    have h2:=qo (j+2) b9;rw[h1,IntKind.wrap_i64];omega
   go_wp2
   go_round
   case rel=>exact⟨j+1,ae (.inr b9),by go_num,by rfl⟩
   case measure=>simp[intOf];omega
  ·have HE:=ae (Nb I.o hlt)
   go_wp2
   go_ret;exact⟨aU (by rw[HT.o,HE.o]),rfl⟩
theorem VL{n q:Nat}(hq:q<=5):eu (q:Int)*eu ((n:Int)-(q:Int)-1)=KW n q:=by
 unfold KW UX eu;rw[if_pos hq,show((n:Int)-(q:Int)-1).toNat=n-1-q by omega];rfl
theorem qn{n:Int}(h:n<=5):1<=eu n/\eu n<=120:=qo _ b9
theorem ot{w:World}{x:Int}{a:j8}{m cap:Nat}(h:Ints w a m cap V):
 Calls Tryz.prog 43 #[pair x a m cap] w fun e w'=>(∃v,e=.returned (.tuple #[v,.bool (aZ x V)])/\l8 w' w.heap.size v (KU x V))/\Ext w w':=by
 obtain⟨W,hW⟩:=b8 (w.alloc (.cells #[.int .i64 x,.slice a m cap] 26));have yI:=ae (show W.heap.size=w.heap.size+1 by rw[hW];simp);have HX:=ae (show Ext w W by rw[hW];exact Ext.alloc _ _);have VB:=ae (show W.cell? ⟨w.heap.size,0,none⟩=some (.int .i64 x)by rw[hW];simp);have J0:=ae (show W.cell? ⟨w.heap.size,1,none⟩=some (.slice a m cap)by rw[hW];simp)
 have HO:=ae (show l8 (W.alloc (.cells #[] 46)) (w.heap.size+1) (.slice (some ⟨w.heap.size+1,0,none⟩) 0 0) []by
  have:=l8.made (w.alloc (.cells #[.int .i64 x,.slice a m cap] 26)) (w.heap.size+1) e7
  rw[hW];simpa using this)
 have HL:=ae h.hlen;have HI:=ae (h.ext HX.o);have l9:=h.l9;have o3:=h.o3;have HV:=ae (ep (p:=x) (HI.o.ext (Ext.alloc W (.cells #[] 46))));clear h;cases hv:aZ x V
 ·have It:=ae hv;rw[hv,hW]at HV;clear hv;go_enter Tryz.func43,Tryz.ntmps43
  go_wp2_with fail;refine HV.o.mono ?_;rw[<-hW];rintro e w2 ⟨rfl,xg⟩
  go_wp2
  refine bodyPost_ret (v:=.tuple #[.slice (some ⟨w.heap.size+1,0,none⟩) 0 0,.bool false]) (by simp[results,Tryz.results43,go_sem]) rfl ⟨⟨_,rfl,by unfold KU;rw[wC _ It.o];exact(HO.o.ext xg).mono b9⟩,HX.o.trans ((Ext.alloc _ _).trans xg)⟩
 obtain⟨n,rfl,h1,h5,hlen,_,CO⟩:=aW hv;have It:=ae hv;have hm:m=cN n:=by have:=HL.o;omega
 have hN:=cu n h5;have HM:=ae hm;have Ct:=ae CO;have Xa:m<=32:=by omega
 rw[hv,hW]at HV;clear hv hlen CO hm hN;go_enter Tryz.func43,Tryz.ntmps43
 go_wp2_with fail;refine HV.o.mono ?_;rw[<-hW];clear hW;rintro e w1 ⟨rfl,wO⟩;have xz:=ae ((Ext.alloc W (.cells #[] 46)).trans wO);have c0:=xz.o.k6 VB.o;have xC:=ae (HO.o.ext wO);clear wO HV;go_wp2_with fail;clear c0
 go_loopg [4,6] n (fun gk o i wr=>∃(k:Nat) (a1:j8) (n1 p1:Nat),b7 (gk+k=n)/\i=.int .i64 (k:Int)/\o=.slice a1 n1 p1/\b7 (l8 wr (w.heap.size+1) (.slice a1 n1 p1) (FN (KW n) V (eu (n:Int)) k))/\b7 (Ext W wr))
 case atStart=>exact⟨0,_,_,_,ae b9,rfl,rfl,ae (by rw[uI];exact xC.o),xz⟩
 case round =>
  obtain⟨g1,r7⟩:=b8 gk;subst r7;obtain⟨o7,o6⟩:=b8 wr;subst o6;obtain⟨k,a1,n1,p1,HK,rfl,rfl,z7,xZ⟩:=hrel;have hsz:=xZ.o.size;rw[yI.o]at hsz;have c1:=xZ.o.k6 J0.o;have Za:=ae (HI.o.ext xZ.o);by_cases hlt:k<n
  ·have xR:wJ (k:Int) 0 4=true:=by unfold wJ;simp;omega
   have HC:=ae (VN k b9);have hp:=gJ k;have Og:=js k b9;go_wp2_with fail
   go_loopg [7,8] m (fun gk t i wr=>∃j:Nat,b7 (gk+j=m)/\i=.int .i64 (j:Int)/\t=.int .i64 (EY (KW n) V k j)/\b7 (Ext o7 wr))
   case atStart=>exact⟨0,ae b9,rfl,rfl,ae (Ext.refl _)⟩
   case round =>
    obtain⟨g2,xK⟩:=b8 gk;subst xK;obtain⟨wr2,wT⟩:=b8 wr;subst wT;obtain⟨j,R,rfl,ht,I⟩:=hrel;obtain⟨T,hT⟩:=b8 (EY (KW n) V k j);have O:=sG Ct.o (KV n h5) k j;rw[<-hT]at ht O;subst ht;have HT:=ae hT;clear hT;have c1':=I.o.k6 c1;by_cases yp:j<m
    ·have U:=ae (Za.o.ext I.o);obtain⟨b,off,he,hc⟩:=U.o.at yp;have Rf:=dM Ct.o j;obtain⟨v1,xM⟩:=b8 (V[j]?.getD 0);rw[<-xM]at hc Rf;have HY1:=ae xM;clear xM;subst he;have hb:=iw (j:Int) k b9 b9;cases zI:bit (j:Int) k
     ·rw[zI]at hb;have HB:=ae zI;have AF:=ae hb;have hu:=VI h5 (by rw[<-HM.o];exact yp) hlt zI;obtain⟨u,U1⟩:∃u:Nat,u=j+2^k:=⟨_,rfl⟩;have K:(j:Int)+2^k=(u:Int):=by rw[U1];simp
      have hum:u<m:=by rw[HM.o,U1];exact hu
      obtain⟨b2,off2,Ry,AZ⟩:=U.o.at hum;simp only[Option.some.injEq,Addr.mk.injEq,and_true]at Ry;obtain⟨rfl,rfl⟩:=Ry;have J:=dM Ct.o u;obtain⟨v2,D1⟩:=b8 (V[u]?.getD 0);rw[<-D1]at AZ J;have HY2:=ae D1;have HU:=ae U1;have Dq:=Pa j;obtain⟨q,hq⟩:=b8 (Ls j);rw[<-hq]at Dq;have HQ:=ae hq;have DT:=VL (n:=n) Dq;have MM:=qn (n:=(q:Int)) b9;have ML:=qn (n:=(n:Int)-(q:Int)-1) b9;have ZJ:=KE (x:=eu (q:Int)) (y:=eu ((n:Int)-(q:Int)-1)) b9 b9 b9 b9;obtain⟨Wt,G⟩:=b8 (KW n q);have Ma:=KV n h5 q;rw[<-G]at Ma DT;have Jz:=KE Ma.1 Ma.2 (y:=v2-v1) b9 b9;obtain⟨X,hX⟩:=b8 (Wt*(v2-v1));rw[<-hX]at Jz;have B9:=ae hX;have HWt:=ae G;have e0:IntKind.i64.wrap (eu (q:Int)*eu ((n:Int)-(q:Int)-1))=Wt:=by rw[<-DT,IntKind.wrap_i64];omega
      have e1:IntKind.i64.wrap (v2-v1)=v2-v1:=by rw[IntKind.wrap_i64];omega
      have e2:IntKind.i64.wrap (Wt*(v2-v1))=X:=by rw[<-hX,IntKind.wrap_i64];omega
      have e3:IntKind.i64.wrap ((j:Int)+2^k)=(u:Int):=by rw[K,IntKind.wrap_i64];omega
      have e4:IntKind.i64.wrap (T+X)=T+X:=by rw[IntKind.wrap_i64];omega
      have e5:IntKind.i64.wrap ((n:Int)-(q:Int))=(n:Int)-(q:Int):=by rw[IntKind.wrap_i64];omega
      have e6:IntKind.i64.wrap ((n:Int)-(q:Int)-1)=(n:Int)-(q:Int)-1:=by rw[IntKind.wrap_i64];omega
      have hum32:u<=32:=by omega
      have HPOP:=ae (show(Fy j 5:Int)=(q:Int)by rw[hq];rfl);clear D1 zI hu K U1 hb Rf J O hX G Ma Jz ZJ MM ML DT hq hp Og;go_wp2_with (first|(go_at_call 78;refine(ee _ _ _ b9).mono ?_;rw[AF.o];rintro e w' ⟨rfl,rfl⟩)|(go_at_call 87;refine(jQ j b9 _).mono ?_;rw[HPOP.o];rintro e w' ⟨rfl,rfl⟩))
      go_quiet ((first|(go_at_call 91;exact bY (ju _ b9 _))|(go_at_call 92;exact bY (HC.o _))))
      go_wp2
      go_roundg (g2-1)
      case measure=>have:=R.o;omega
      case rel=>exact⟨j+1,ae (j4 R.o),by go_num,by unfold EY;rw[HB.o,<-HT.o,<-HU.o,<-HY2.o,<-HY1.o,<-HQ.o,<-HWt.o,<-B9.o];simp[go_sem,e4],ae (I.o.trans (yd.ext ⟨_,rfl⟩))⟩
     ·rw[zI]at hb;have HB:=ae zI;have AF:=ae hb;clear zI hb;go_wp2_with (first|(go_at_call 78;refine(ee _ _ _ b9).mono ?_;rw[AF.o];rintro e w' ⟨rfl,rfl⟩))
      go_roundg (g2-1)
      case measure=>have:=R.o;omega
      case rel=>exact⟨j+1,ae (j4 R.o),by go_num,by unfold EY;rw[HB.o,<-HT.o];simp,I⟩
    ·have DE:m=j:=by have:=R.o;omega
     subst DE;obtain⟨p,q,ok,xk⟩:∃p q ok,aL T (eu (n:Int))=((p,q),ok):=⟨_,_,_,rfl⟩;have yt:=ae xk;have T9:=ae (xZ.o.trans I.o);have xp:=ae (z7.o.ext I.o);have Dc:=T9.o.size;rw[yI.o]at Dc;have Bv:=ae (fun(w':World)=>jt T (eu (n:Int)) w');rw[yt.o]at Bv;have Jy:(n:Int)<=5:=by omega
     clear xk
     go_wp2_with (first
      | (go_at_call 91;refine(ju _ Jy _).mono ?_;rintro e w' ⟨rfl,rfl⟩)
      | (go_at_call 90;refine(Bv.o _).mono ?_;rintro e w3 ⟨rfl,Z⟩;have X3:=ae (T9.o.trans Z);have yW:=ae (xp.o.ext Z);have D3:=Z.size;clear Z)
      | (at_builtin;refine aG rfl _ _ rfl (w.heap.size+1) (.slice a1 n1 p1) _ rfl ((yW.o.ext (Ext.alloc _ _)).ext (Ext.alloc _ _)) _ 1 _ [(p,q)] rfl (r8.one' _ _ _ _ _ e7) (by rw[NC];omega) (by simp;omega) ?_;intro v2 w4 ho hg l7;have X5:=ae (al (X3.o.trans ((Ext.alloc _ _).trans (Ext.alloc _ _))) hg (fun j hj=>by rw[yI.o];exact(yW.o.lt j hj).1));obtain⟨a2,n2,c2,rfl,Fa⟩:=ho.var;have xL:=ae ho;clear ho hg l7))
     go_roundg (g1-1)
     case measure=>have:=HK.o;omega
     case rel =>
      refine⟨k+1,a2,n2,c2,ae (j4 HK.o),by go_num,rfl,ae ?_,X5⟩;have:=xL.o;rw[uH,T3,HL.o,<-HT.o,yt.o];exact this
  ·have xQ:n=k:=by have:=HK.o;omega
   subst xQ
   go_wp2
   refine bodyPost_ret (v:=.tuple #[.slice a1 n1 p1,.bool true]) (by simp[results,Tryz.results43,go_sem]) rfl ⟨⟨_,rfl,by unfold KU;rw[KT _ It.o,Int.toNat_natCast];exact z7.o.mono b9⟩,HX.o.trans xZ.o⟩
end Go.Proofs.YtalmoolkhcgmmaaGreat
