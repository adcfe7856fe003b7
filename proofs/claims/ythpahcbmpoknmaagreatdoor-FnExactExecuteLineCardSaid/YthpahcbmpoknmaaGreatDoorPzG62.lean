import Derived.Test.YthpahcbmpoknmaaGreatDoorPzG35
import Derived.OwnWalk
import Derived.Lib.Replace
set_option linter.all false
set_option maxHeartbeats 6000000
set_option maxRecDepth 100000
namespace Go.Proofs.YthpahcbmpoknmaaGreatDoor
open Ending renaming returned->atn
open List renaming length->Lp
open Obj renaming cells->SH
open Value renaming slice->FB,bool->ato,string->atr,pointer->ats
open Go.Proofs.Tryz Go.RowKit
variable{σ:Prop}
section
def cr(h:σ:=by simp[results,qq0,go_sem,r0,r1,r2,rf,z0,z1,z2]<;>rfl):σ:=h
def LA(h:σ:=by simp[results,results86,go_sem,q0,q1,qf]):σ:=h
def KV(h:σ:=by simp[results,results97,go_sem,q0,q1,qf]):σ:=h
def Wz(h:σ:=by simp[results,results100,go_sem]<;>rfl):σ:=h
def Ns(h:σ:=by simp[results,results59,go_sem]<;>rfl):σ:=h
def Lz(h:σ:=by simp[results,results57,go_sem]<;>rfl):σ:=h
def FF(h:σ:=by simp[results,results99,go_sem]<;>rfl):σ:=h
def Pq{P Q:Prop}(q:Q)(h:Q->P:=by intro q;go_roundg (gk-1);exact q;have:=HB.o;omega):P:=h q
def MS{P Q:Prop}(q:Q)(h:Q->P:=by intro q;go_roundg (g1-1);exact q;have:=HA.o;omega):P:=h q
variable{n:Nat}{a:o6}{w:J}{V:o7}
def IC(k:Nat)(V:o7)(a b:Nat):Bool :=
 if k=1 then decide (a &&& b=a)&&decide (V[b]?.getD 0<V[a]?.getD 0)
 else if k=2 then decide (a &&& b=0)&&decide (V[a ||| b]?.getD 0<V[a]?.getD 0+V[b]?.getD 0)
 else decide (V[a ||| b]?.getD 0+V[a &&& b]?.getD 0<V[a]?.getD 0+V[b]?.getD 0)
def kw(f:Nat->Nat->Bool)(a m:Nat):Bool:=(List.range m).all λb=>!f a b
def IK(f:Nat->Nat->Bool)(n m:Nat):Bool:=(List.range m).all λa=>kw f a n
theorem sW(f:Nat->Nat->Bool)(a m:Nat):kw f a (m+1)=(kw f a m&&!f a m):=by unfold kw;rw[mr,p7];simp
theorem vD(f:Nat->Nat->Bool)(n m:Nat):IK f n (m+1)=(IK f n m&&kw f m n):=by unfold IK;rw[mr,p7];simp
theorem yC{f:Nat->Nat->Bool}{a b:Nat}(h:f a b=true)(G:a<n)(hb:b<n):IK f n n=false:=by
 rw[We];intro H;have:=fp.1 (fp.1 H a (nM.2 G)) b (nM.2 hb);rw[h]at this;cases this
def dg(k:Nat)(p:Int)(V:o7):Bool:=ak p V&&IK (IC k V) (Lp V) V.length
theorem tV:∀a b:Fin 32,bits .and .i64 ((a.val:Nat):Int) ((b.val:Nat):Int)=((a.val &&& b.val:Nat):Int)/\bits .or .i64 ((a.val:Nat):Int) ((b.val:Nat):Int)=((a.val ||| b.val:Nat):Int)/\(bits .andNot .i64 ((a.val:Nat):Int) ((b.val:Nat):Int) == 0)=decide (a.val &&& b.val=a.val):=by decide +kernel
theorem eX{u v:atY}{a b:Bool}(h:a=b):atn (.tuple #[u,v,ato a])=atn (.tuple #[u,v,ato b]):=by rw[h]
structure PH(w:J)(V:o7)(n vb vo x y:Nat):Prop where
 c1:w.cell? (IM vb (vo+x))=some (U (V[x]?.getD 0))
 c2:w.cell? (IM vb (vo+y))=some (U (V[y]?.getD 0))
 c3:w.cell? ⟨vb,vo+(x ||| y),none⟩=some (U (V[x ||| y]?.getD 0))
 c4:w.cell? ⟨vb,vo+(x &&& y),none⟩=some (U (V[x &&& y]?.getD 0))
 u:x ||| y<n
 o:x &&& y<n
theorem S1{q:Int}{cap:Nat}(h:d6 w a n cap V)(hg:ak q V=true){x y:Nat}(hx:x<n)(K:y<n):
 n<=32/\(∀k:Nat,-500<=V[k]?.getD 0/\V[k]?.getD 0<=500)/\∃H vo,a=some (IM H vo)/\PH w V n H vo x y:=by
 obtain⟨m,Fw,I6,Lk,SI,_,Om⟩:=ap hg;have hc:=bp m Lk;have Q:n=cN m:=by rw[<-SI,h.hlen]
 have Z:x ||| y<n:=by rw[Q]at hx K⊢;exact gp hx K
 have ho:x &&& y<n:=KW Nat.and_le_left hx;have⟨H,vo,e,G⟩:=h.cell x hx;exact⟨by omega,λi=>du Om i,H,vo,e,G _ hx,G _ K,G _ Z,G _ ho,Z,ho⟩
theorem xA:Rd prog 227:=cE func227 k8 k8
theorem Dv:Rd prog 228:=cE func228 k8 k8
theorem BD:Rd prog 229:=cE func229 k8 k8
section
variable{w:J}{p:Int}{a:o6}{n cap bm:Nat}{V:o7}
theorem zR(h:d6 w a n cap V)(hg:ak p V=true)(x y:Nat)(hx:x<n)(hy:y<n)(hb:w.heap[bm]?=some (SH #[U p,FB a n cap] 31 (0,0))):
 f9 227 #[U x,U y,ats (some (IM bm 0))] w (ato (IC 1 V x y)):=by
 obtain⟨hn,hv,K,vo,rfl,f⟩:=S1 h hg hx hy;have g1:=aL hb;have⟨z,hz⟩:=j7 (IC 1 V x y);have e:=(tV ⟨x,by omega⟩ ⟨y,by omega⟩).2.2;have H:e9 (z=(decide (x &&& y=x)&&decide (V[y]?.getD 0<V[x]?.getD 0))):=hz;simp only at e;rw[<-e]at H;rw[<-hz];have⟨t,ht⟩:=j7 (bits .andNot .i64 ((x:Nat):Int) ((y:Nat):Int));have c1:=f.c1;have c2:=f.c2;have⟨v1,Z⟩:=j7 (V[x]?.getD 0);have⟨v2,OB⟩:=j7 (V[y]?.getD 0);rw[<-Z]at H c1;rw[<-OB]at H c2;rw[<-ht]at H;have HK:=I (λ(w':J) (G:D4 w w')=>(⟨G.o9 g1,G.o9 c1,G.o9 c2,G⟩:w'.cell? (IM bm 1)=some (FB (some (IM K vo)) n cap)/\w'.cell? (IM K (vo+x))=some (U v1)/\w'.cell? (IM K (vo+y))=some (U v2)/\D4 w w'));clear hz e Z OB;cases JQ:(t == 0)
 ·rw[JQ]at H;rw[ht]at JQ;clear ht;(try unfold f9);go_in
  go_upto_region 1 with rfl;have G:=D4.drew w;refine kp HK G λr9=>?_
  refine ta ⟨?_⟩;refine Sv ⟨?_⟩;refine ST k8 ?_ _;go_wp2;go_ret;exact⟨ag (by rw[H.o];rfl),G⟩
 rw[JQ]at H;rw[ht]at JQ;clear ht;have hx':=SW x n;have hy':=SW y n;have B9:=aE x;have JB:=aE y
 (try unfold f9);go_in
 go_upto_region 1 with rfl;have G:=D4.drew w;refine kp HK G λr9=>?_
 refine ta ⟨?_⟩;refine Sv ⟨?_⟩;refine ST k8 ?_ _;go_wp2;go_ret;exact⟨ag (by rw[H.o];simp),G⟩
def k5(h:σ:=by
 (try unfold f9);go_in
 go_upto_region 1 with rfl;have hk:D4 w w.drew:=D4.drew w;refine kp HK hk λr9=>?_
 refine ta ⟨?_⟩;refine C2 ⟨?_⟩;refine RQ ⟨?_⟩;refine ST k8 ?_ _;go_wp2;go_ret;exact⟨ag (by rw[HZ2.o]),hk⟩
 ):σ:=h
theorem YT(h:d6 w a n cap V)(hg:ak p V=true)(x y:Nat)(hx:x<n)(hy:y<n)(hb:w.heap[bm]?=some (SH #[U p,FB a n cap] 31 (0,0))):
 f9 228 #[U x,U y,ats (some (IM bm 0))] w (ato (IC 2 V x y)):=by
 obtain⟨hn,K,H,vo,rfl,f⟩:=S1 h hg hx hy;have g1:=aL hb;have⟨z,hz⟩:=j7 (IC 2 V x y);have e:=tV ⟨x,by omega⟩ ⟨y,by omega⟩;have Z:=e.1;have e2:=e.2.1;simp only at Z e2;have G:e9 (z=(decide (x &&& y=0)&&decide (V[x ||| y]?.getD 0<V[x]?.getD 0+V[y]?.getD 0))):=hz;rw[<-hz];have c1:=f.c1;have c2:=f.c2;have c3:=f.c3;have hu:=f.u;have b1:=K x;have b2:=K y;have⟨v1,Lh⟩:=j7 (V[x]?.getD 0);have⟨v2,OB⟩:=j7 (V[y]?.getD 0);have⟨v3,Vp⟩:=j7 (V[x ||| y]?.getD 0);rw[<-Lh]at G c1 b1;rw[<-OB]at G c2 b2;rw[<-Vp]at G c3;generalize x ||| y=u at e2 c3 hu
 have hs:=dc (v1+v2);have HK:=I (λ(w':J) (hk:D4 w w')=>(⟨hk.o9 g1,hk.o9 c1,hk.o9 c2,hk.o9 c3,hk⟩:w'.cell? (IM bm 1)=some (FB (some (IM H vo)) n cap)/\w'.cell? (IM H (vo+x))=some (U v1)/\w'.cell? (IM H (vo+y))=some (U v2)/\w'.cell? (IM H (vo+u))=some (U v3)/\D4 w w'));clear h K f hz e Lh OB Vp hb g1 c1 c2 c3 hg b1 b2;by_cases JQ:x &&& y=0
 ·have HZ2:=I (show z=decide (v3<v1+v2)by rw[G.o,JQ];rfl);rw[JQ]at Z;have hx':=SW x n;have hy':=SW y n;have Qm:=SW u n;have B9:=aE x;have JB:=aE y;have Li:=aE u;clear JQ;exact k5
 have HZ2:=I (show z=false by rw[G.o,RK JQ];rfl);have e3:(((x &&& y:Nat):Int) == 0)=false:=by simp only[VK];omega
 generalize ((x &&& y:Nat):Int)=o at Z e3;clear JQ;exact k5
theorem Dz(h:d6 w a n cap V)(hg:ak p V=true)(x y:Nat)(hx:x<n)(hy:y<n)(hb:w.heap[bm]?=some (SH #[U p,FB a n cap] 31 (0,0))):
 f9 229 #[U x,U y,ats (some (IM bm 0))] w (ato (IC 3 V x y)):=by
 obtain⟨hn,Z,H,vo,rfl,f⟩:=S1 h hg hx hy;have g1:=aL hb;have⟨z,hz⟩:=j7 (IC 3 V x y);have e:=tV ⟨x,by omega⟩ ⟨y,by omega⟩;have e1:=e.1;have e2:=e.2.1;simp only at e1 e2;have HZ:e9 (z=decide (V[x ||| y]?.getD 0+V[x &&& y]?.getD 0<V[x]?.getD 0+V[y]?.getD 0)):=hz;rw[<-hz];have c1:=f.c1;have c2:=f.c2;have c3:=f.c3;have c4:=f.c4;have hu:=f.u;have ho:=f.o;have b1:=Z x;have b2:=Z y;have b3:=Z (x ||| y);have b4:=Z (x &&& y);have⟨v1,Lh⟩:=j7 (V[x]?.getD 0);have⟨v2,OB⟩:=j7 (V[y]?.getD 0);have⟨v3,Vp⟩:=j7 (V[x ||| y]?.getD 0);have⟨v4,K⟩:=j7 (V[x &&& y]?.getD 0);rw[<-Lh]at HZ c1 b1;rw[<-OB]at HZ c2 b2;rw[<-Vp]at HZ c3 b3;rw[<-K]at HZ c4 b4;generalize x ||| y=u at e2 c3 hu
 generalize x &&& y=o at e1 c4 ho;have hs:=dc (v1+v2);have Pa:=dc (v3+v4);have HK:=I (λ(w':J) (G:D4 w w')=>(⟨G.o9 g1,G.o9 c1,G.o9 c2,G.o9 c3,G.o9 c4,G⟩:w'.cell? (IM bm 1)=some (FB (some (IM H vo)) n cap)/\w'.cell? (IM H (vo+x))=some (U v1)/\w'.cell? (IM H (vo+y))=some (U v2)/\w'.cell? (IM H (vo+u))=some (U v3)/\w'.cell? (IM H (vo+o))=some (U v4)/\D4 w w'));have hx':=SW x n;have hy':=SW y n;have Qm:=SW u n;have ho':=SW o n;have B9:=aE x;have JB:=aE y;have Li:=aE u;have ho0:=aE o;clear h Z f hz e Lh OB Vp K hb g1 c1 c2 c3 c4 hg b1 b2 b3 b4;(try unfold f9);go_in
 go_upto_region 1 with rfl;have G:=D4.drew w;refine kp HK G λr9=>?_
 refine ta ⟨?_⟩;refine C2 ⟨?_⟩;refine RQ ⟨?_⟩;refine tk 26 ?_;refine tk 27 ?_;refine ST k8 ?_ _;go_wp2;go_ret;exact⟨ag (by rw[HZ.o]),G⟩
def S5(h:σ:=by
 have Tk:x=n:=by have:=HA.o;omega
 subst Tk;go_wp2
 go_ret3
 exact⟨⟨_,_,eX (by rw[HZ.o,Sc.o];rfl)⟩,HX.trans XR.o⟩
 ):σ:=h
def Of(h:σ:=by
 go_wp2_with rfl;refine MS ?_;exact⟨x+1,I (l8 HA.o),by go_num,ahr,XS⟩
 ):σ:=h
theorem um{G:FuncId}{ca:Array atY}{f:Nat->Nat->Bool}(h:d6 w a n cap V)(hg:Rd prog G)
 (hf:ak p V=true->∀x y:Nat,x<n->y<n->∀w1,D4 w w1->Calls prog G (#[U x,U y]++ca) w1 λe w2=>e=atn (ato (f x y))/\D4 w1 w2) :
 Calls prog 226 #[Id p a n cap,.func (.func G) #[] ca] w λe w'=>(∃x y:Int,e=atn (.tuple #[U x,U y,ato (ak p V&&!IK f n n)]))/\D4 w w':=by
 have⟨W,hW⟩:=j7 (w.alloc (SH #[U p,FB a n cap] 31));have hX:D4 w W:=by rw[hW];exact ZL
 have k0:W.cell? (IM w 0)=some (U p):=by rw[hW];simp
 have k1:W.cell? (IM w 1)=some (FB a n cap):=by rw[hW];simp
 have K1:=I k1;have HX:=I hX;have⟨y7,y8⟩:=h.ath;have K:=I (bV (p:=p) (h.ext hX));have VD:∀(args:Array atY) (w:J),(callFunc G args).run prog w=.ok (.enter G args) w:=hg;have HF:=I hf;have⟨z,HZ⟩:=Ok ((ak p V&&!IK f n n));rw[<-HZ.o];go_in
 go_upto_region 1 with rfl;rw[<-hW];clear hW;cases D9:ak p V
 ·rw[D9]at K HZ;go_wp2_with rfl;refine i6 K λw1 hx=>?_;have T2:=I (HX.trans hx);go_wp2
  go_ret3
  exact⟨⟨_,_,eX HZ.symm⟩,T2⟩
 rw[D9]at K HZ;have HG:=I (HF D9);go_wp2_with rfl;refine i6 K λw1 hx=>?_;have T2:=I hx;have p1:=hx.o9 K1.o;go_wp2
 go_loopg [15] n (λgk aa wr=>∃x:Nat,e9 (gk+x=n)/\aa=U x/\e9 (IK f n x=true)/\e9 (D4 W wr))
 ·exact my
 rename Nat=>g1;rename J=>A1;obtain⟨x,HA,rfl,Sc,XR⟩:=hrel;by_cases hlt:x<n
 ·have q1:=XR.o9 K1.o;go_wp2
  go_loopg [21] n (λgk bb wr=>∃y:Nat,e9 (gk+y=n)/\bb=U y/\e9 (kw f x y=true)/\e9 (D4 W wr))
  ·exact⟨0,I O,rfl,I rfl,XR⟩
  obtain⟨y,HB,rfl,L9,XS⟩:=hrel;by_cases H:y<n
  ·have HC:=I (HG x y hlt H wr (HX.trans XS));cases hb:f x y
   ·rw[hb]at HC;have Z:=I (show kw f x (y+1)=true by rw[sW,L9.o,hb];rfl);go_wp2_with rfl;refine i6 HC λw3 hx=>?_;have XT:=I (XS.trans hx);go_wp2_with rfl;refine Pq ?_;exact⟨y+1,I (l8 HB.o),by go_num,Z,XT⟩
   rw[hb]at HC;have IY:e9 (IK f n n=false):=yC hb hlt H;go_wp2_with rfl;refine i6 HC λw3 hx=>?_;have XT:=I (HX.trans (XS.trans hx));go_wp2
   go_ret3
   exact⟨⟨_,_,eX (by rw[HZ.o,IY.o];rfl)⟩,XT⟩
  have OG:y=n:=l8 HB.o;subst OG;have ahr:=I (show IK f y (x+1)=true by rw[vD,Sc.o,L9.o];rfl);exact Of
 exact S5
def VS(h:σ:=by
 have⟨G,hG⟩:=j7 (ak p V);simp only[<-hG]at HP HK HV;clear hG;cases G
 all_goals
  cases y1
  all_goals
   (try unfold f9);go_in
   go_wp2_with rfl;refine HK.mono ?_;rintro e w1 ⟨⟨x,y,rfl⟩,hx⟩;have X1:=I (HX.trans hx);have c0:w1.cell? (IM w.heap.size 0)=some (U p):=hx.o9 j9;have c1:w1.cell? (IM w.heap.size 1)=some (FB a n cap):=hx.o9 j9;clear hx;go_wp2_with rfl;refine(HV _ X1).mono ?_;rintro e w2 ⟨rfl,hx⟩;have X2:=I (X1.trans hx);clear hx;go_wp2;go_ret;exact⟨ag (by rw[HP.o];rfl),X2⟩
 ):σ:=h
def PM(h:σ:=by
 intro w' hx;have HI:=I (h.ext hx);have HX:=I (D4.alloc w' (SH #[U p,FB a n cap] 31));have HF:=I (um (p:=p) (ca:=#[ats (some (IM w'.heap.size 0))]) (HI.ext HX) qq0 (λhg x y B0 hy w1 Jl=>qq1 ((HI.ext HX).ext Jl) hg x y B0 hy (Jl.blk (LE rfl))));clear hx h;(try unfold f9);go_in
 go_wp2_with rfl;refine HF.mono ?_;rintro e w1 ⟨⟨x,y,rfl⟩,hx⟩;have X1:=I (HX.trans hx);clear hx;go_wp2
 go_ret3
 exact⟨⟨_,_,eX rfl⟩,X1⟩
 ):σ:=h
theorem BQ(h:d6 w a n cap V):f9 72 #[Id p a n cap] w (ato (dg 1 p V)):=by
 have Q:=I h.hlen;have H:∀w',D4 w w'->Calls prog 147 #[Id p a n cap] w' λe w2=>(∃x y:Int,e=atn (.tuple #[.int .i64 x,.int .i64 y,ato (ak p V&&!IK (IC 1 V) n n)]))/\D4 w' w2:=by
  have qq0:=@xA;have qq1:=@zR;exact PM
 have HX:=I (D4.alloc w (SH #[.int .i64 p,FB a n cap] 31));refine Fn (H _ HX) (λ(w':J) (hx:D4 w w')=>bV (p:=p) (h.ext hx)) (show dg 1 p V=(ak p V&&IK (IC 1 V) n n)by unfold dg;rw[Q.o]) λHK HV HP=>?_;have⟨z,hz⟩:=j7 (dg 1 p V);rw[<-hz]at HP⊢;have⟨y1,K⟩:=j7 (IK (IC 1 V) n n);rw[<-K]at HK HP;clear H h hz K;exact VS
theorem PI(h:d6 w a n cap V):f9 73 #[Id p a n cap] w (ato (dg 2 p V)):=by
 have K:=I h.hlen;have H:∀w',D4 w w'->Calls prog 148 #[Id p a n cap] w' λe w2=>(∃x y:Int,e=atn (.tuple #[U x,U y,ato (ak p V&&!IK (IC 2 V) n n)]))/\D4 w' w2:=by
  have qq0:=@Dv;have qq1:=@YT;exact PM
 have HX:=I (D4.alloc w (SH #[U p,FB a n cap] 31));refine Fn (H _ HX) (λ(w':J) (hx:D4 w w')=>bV (p:=p) (h.ext hx)) (show dg 2 p V=(ak p V&&IK (IC 2 V) n n)by unfold dg;rw[K.o]) λHK HV HP=>?_;generalize dg 2 p V=z at HP⊢;generalize IK (IC 2 V) n n=y1 at HK HP;exact VS
theorem DA(h:d6 w a n cap V):f9 74 #[Id p a n cap] w (ato (dg 3 p V)):=by
 have Q:=I h.hlen;have H:∀w',D4 w w'->Calls prog 149 #[Id p a n cap] w' λe w2=>(∃x y:Int,e=atn (.tuple #[.int .i64 x,.int .i64 y,ato (ak p V&&!IK (IC 3 V) n n)]))/\D4 w' w2:=by
  have qq0:=@BD;have qq1:=@Dz;exact PM
 have HX:=I (D4.alloc w (SH #[.int .i64 p,FB a n cap] 31));refine Fn (H _ HX) (λ(w':J) (hx:D4 w w')=>bV (p:=p) (h.ext hx)) (show dg 3 p V=(ak p V&&IK (IC 3 V) n n)by unfold dg;rw[Q.o]) λHK HV HP=>?_;have⟨z,hz⟩:=j7 (dg 3 p V);rw[<-hz]at HP⊢;have⟨y1,K⟩:=j7 (IK (IC 3 V) n n);rw[<-K]at HK HP;clear H h hz K;exact VS
end
def Vj(a b k:Nat):Bool:=(List.range k).all λj=>!(M2 (a:Int) j&&!M2 (b:Int) j)
theorem Ff(a b k:Nat):Vj a b (k+1)=(Vj a b k&&!(M2 (a:Int) k&&!M2 (b:Int) k)):=by unfold Vj;rw[mr,p7];simp
theorem IJ:∀a b:Fin 32,Vj a.val b.val 5=decide (a.val &&& b.val=a.val):=by decide +kernel
theorem VF{a b k:Nat}(G:k<5)(K:M2 (a:Int) k=true)(H:M2 (b:Int) k=false):Vj a b 5=false:=by
 rw[We];intro Q;have:=fp.1 Q k (nM.2 G);rw[K,H]at this;cases this
theorem CE(a b:Nat)(ha:a<32)(hb:b<32)(w:J):
 Calls prog 349 #[U a,U b] w λe w'=>e=atn (ato (decide (a &&& b=a)))/\w=w':=by
 have FA:A8 (a:Int) 0 31=true:=by unfold A8;simp;omega
 have Lo:A8 (b:Int) 0 31=true:=by unfold A8;simp;omega
 have HG:=I (iC (a:Int) w);have Ly:=I (iC (b:Int) w);rw[FA]at HG;rw[Lo]at Ly;have G:=I (IJ ⟨a,ha⟩ ⟨b,hb⟩);have⟨z,hz⟩:=j7 (decide (a &&& b=a));simp only at G;rw[<-hz]at G;rw[<-hz];clear hz;go_in
 go_wp2
 go_loopg [5] 5 (λgk i wr=>∃(k:Nat),e9 (gk+k=5)/\i=U k/\e9 (Vj a b k=true)/\wr=w)
 ·exact sd
 obtain⟨k,HK,rfl,HS,rfl⟩:=hrel;by_cases K:k<5
 ·have HA:=I (dG (a:Int) k O O);have HB:=I (dG (b:Int) k O O);cases Z:M2 (a:Int) k
  all_goals
   cases F0:M2 (b:Int) k
  all_goals
   rw[Z]at HA;rw[F0]at HB;go_wp2_with rfl;refine(bE (a:Int) (k:Int) _ O).mono ?_;rw[HA.o];rintro e H ⟨rfl,rfl⟩;go_wp2_with rfl
   try(refine(bE (b:Int) (k:Int) _ O).mono ?_;rw[HB.o];rintro e H ⟨rfl,rfl⟩;go_wp2_with rfl)
  all_goals first
   | (go_ret;exact⟨ag (by rw[<-G.o];exact(VF K Z F0).symm),rfl⟩)
   | (refine dk ?_;exact⟨k+1,I (l8 HK.o),by go_num,I (by rw[Ff,HS.o,Z,F0];rfl),rfl⟩)
 have OE:k=5:=l8 HK.o;subst OE;go_wp2_with rfl;refine HG.mono ?_;rintro e H ⟨rfl,rfl⟩;go_wp2_with rfl;refine Ly.mono ?_;rintro e H ⟨rfl,rfl⟩;go_wp2;go_ret;exact⟨ag (by rw[<-G.o,HS.o]),rfl⟩
def U3(w':J)(g:Nat)(vb vo n cap:Nat)(x y u o:Nat)(v1 v2 v3 v4:Int):Prop :=
 w'.cell? (IM g 1)=some (FB (some (IM vb vo)) n cap)/\w'.cell? (IM vb (vo+x))=some (U v1)/\w'.cell? (IM vb (vo+y))=some (U v2)/\w'.cell? (IM vb (vo+u))=some (U v3)/\w'.cell? (IM vb (vo+o))=some (U v4)
def PR(h:σ:=by
 refine ST k8 ?_ _;go_wp2;go_meet;exact⟨by rw[HQ2.o];simp,I (XS.trans C4)⟩
 ):σ:=h
def OY(h:σ:=by
 refine ST k8 ?_ _;go_wp2;go_meet;exact⟨by rw[HQ2.o];rfl,I (XS.trans C4)⟩
 ):σ:=h
theorem Ue{p:Int}{cap:Nat}(h:d6 w a n cap V)(k:Nat)(H:k=1∨k=2∨k=3):
 Calls prog 326 #[Id p a n cap,.int .i64 (k:Int)] w λe w'=>(∃(x y:Int),e=.returned (.tuple #[.int .i64 x,.int .i64 y,.bool (ak p V&&!IK (IC k V) n n)]))/\D4 w w':=by
 obtain⟨W,hW⟩:=j7 (w.alloc (.cells #[.int .i64 p,.slice a n cap] 31));have hX:D4 w W:=by rw[hW];exact D4.alloc _ _
 have k0:W.cell? ⟨w.heap.size,0,none⟩=some (.int .i64 p):=by rw[hW];simp
 have k1:W.cell? ⟨w.heap.size,1,none⟩=some (.slice a n cap):=by rw[hW];simp
 have HI:=I (h.ext hX);have HX:=I hX;have HL:=I h.hlen;have y7:=h.y7;have y8:=h.y8;have HV:=I (λ(w':J) (hx:D4 W w')=>bY (p:=p) (HI.o.ext hx));obtain⟨z,hz⟩:=j7 ((ak p V&&!IK (IC k V) n n));rw[<-hz];have HZ:=I hz;have MR:=I H;clear hz h hX H;go_in
 go_upto_region 2 with rfl;rw[<-hW];clear hW;cases hg:ak p V
 ·rw[hg]at HV HZ;clear hg;by_cases QN:0<n
  ·go_wp2_with rfl
   go_loopg [8] 1 (λgk aa wr=>aa=.int .i64 0/\wr=W)
   case atStart=>exact⟨rfl,rfl⟩
   obtain⟨rfl,rfl⟩:=hrel;go_wp2_with rfl;refine i6 (HV.o _ (D4.refl _)) λw1 B0=>?_;have T2:=I B0;clear B0;go_wp2_with rfl
   go_ret3
   exact⟨⟨_,_,eX (by rw[HZ.o];rfl)⟩,HX.o.trans T2.o⟩
  have hn:n=0:=O;subst hn;go_wp2_with rfl
  go_loopg [8] 1 (λgk aa wr=>aa=.int .i64 0/\wr=W)
  case atStart=>exact⟨rfl,rfl⟩
  obtain⟨rfl,rfl⟩:=hrel;go_wp2_with rfl
  go_ret3
  exact⟨⟨_,_,eX (by rw[HZ.o];rfl)⟩,HX.o⟩
 rw[hg]at HV HZ;have HGK:=I hg;clear hg;go_wp2_with rfl
 go_loopg [8] n (λgk aa wr=>∃a:Nat,e9 (gk+a=n)/\aa=.int .i64 (a:Int)/\e9 (IK (IC k V) n a=true)/\e9 (D4 W wr))
 case atStart=>exact FC
 rename Nat=>g1;rename J=>A1;obtain⟨x,HA,rfl,Sc,XR⟩:=hrel;by_cases hlt:x<n
 ·have p0:=XR.o.o9 k0;have p1:=XR.o.o9 k1;go_wp2_with rfl;refine i6 (HV.o _ XR.o) λw1 B0=>?_;have T2:=I (XR.o.trans B0);clear B0 p0 p1;go_wp2_with rfl
  go_loopg [9] n (λgk bb wr=>∃b:Nat,e9 (gk+b=n)/\bb=.int .i64 (b:Int)/\e9 (kw (IC k V) x b=true)/\e9 (D4 W wr))
  case atStart=>exact my
  obtain⟨y,HB,rfl,L9,XS⟩:=hrel;by_cases hlb:y<n
  ·obtain⟨IU,Ha,vb,vo,rfl,f⟩:=S1 (HI.o.ext XS.o) HGK.o hlt hlb;have HF:=I f;have J9:=I Ha;clear f Ha;have HQ:=I (show IC k V x y=if k=1 then decide (x &&& y=x)&&decide (V[y]?.getD 0<V[x]?.getD 0) else if k=2 then decide (x &&& y=0)&&decide (V[x ||| y]?.getD 0<V[x]?.getD 0+V[y]?.getD 0) else decide (V[x ||| y]?.getD 0+V[x &&& y]?.getD 0<V[x]?.getD 0+V[y]?.getD 0)from rfl);obtain⟨Z,hZ⟩:=j7 (IC k V x y);rw[<-hZ]at HQ;have HZB:=I hZ;clear hZ
   go_upto_block 4 with rfl
   go_cut [10] (λs wx=>s=.bool Z/\e9 (D4 W wx))
   case first =>
    have q1:=XS.o.o9 k1;have c1:=HF.o.c1;have c2:=HF.o.c2;have c3:=HF.o.c3;have c4:=HF.o.c4;have hu:=HF.o.u;have ho:=HF.o.o;have b1:=J9.o x;have b2:=J9.o y;have b3:=J9.o (x ||| y);have b4:=J9.o (x &&& y);have HU:=I (λw'=>MQ x y O O w');have HO:=I (λw'=>EM x y O O w');have HS:=I (λw'=>CE x y O O w');obtain⟨v1,Lh⟩:=j7 (V[x]?.getD 0);obtain⟨v2,OB⟩:=j7 (V[y]?.getD 0);obtain⟨v3,Vp⟩:=j7 (V[x ||| y]?.getD 0);obtain⟨v4,hv4⟩:=j7 (V[x &&& y]?.getD 0);obtain⟨tt,F2⟩:=j7 (decide (x &&& y=x));obtain⟨t0,JQ⟩:=j7 (decide (x &&& y=0));rw[<-Lh,<-OB,<-Vp,<-hv4,<-F2,<-JQ]at HQ;simp only[<-F2]at HS;rw[<-Lh]at c1 b1;rw[<-OB]at c2 b2;rw[<-Vp]at c3 b3;rw[<-hv4]at c4 b4;have ht:(((x &&& y:Nat):Int) == 0)=t0:=by rw[JQ,uu];simp
    clear Lh OB Vp hv4 F2 JQ;generalize x ||| y=u at c3 HU hu
    generalize x &&& y=o at c4 HO ho ht;have Jl:=dc (v1+v2);have hw2:=dc (v3+v4);have hx':=SW x n;have hy':=SW y n;have Qm:=SW u n;have ho':=SW o n;have B9:=aE x;have JB:=aE y;have Li:=aE u;have ho0:=aE o;clear b1 b2 b3 b4 hu ho;have C4:=D4.drew wr;have G:=I (λ(w':J) (H:D4 wr w')=>(⟨⟨H.o9 q1,H.o9 c1,H.o9 c2,H.o9 c3,H.o9 c4⟩,H⟩:U3 w' w.heap.size vb vo n cap x y u o v1 v2 v3 v4/\D4 wr w'));rcases MR.o with rfl|rfl|rfl
    ·have HQ2:=I (show Z=(tt&&decide (v2<v1))from HQ.o);clear ht;go_upto_region 12 with rfl;cases tt
     all_goals
      unfold U3 at G;refine kp G C4 λr9=>?_;refine tk 0 ?_;refine tk 1 ?_;refine rd 2 λK hK=>?_;go_simp
      (go_at_call 349;refine(HS.o _).mono ?_;rintro e w5 ⟨rfl,rfl⟩)
      go_wp2_with rfl;refine KO (G.o _ C4) λr9=>?_;refine tk 3 ?_
     ·
      refine VU ⟨?_⟩;refine O5 ⟨?_⟩;refine tk 14 ?_;refine tk 15 ?_;refine tk 16 ?_;exact OY
        
     refine VU ⟨?_⟩;refine O5 ⟨?_⟩;refine tk 14 ?_;refine tk 15 ?_;refine tk 16 ?_;exact PR
    ·have HQ2:=I (show Z=(t0&&decide (v3<v1+v2))from HQ.o);go_upto_region 14 with rfl;cases t0
     all_goals
      unfold U3 at G;refine kp G C4 λr9=>?_;refine tk 0 ?_;refine tk 1 ?_;refine rd 2 λK hK=>?_;go_simp
      (go_at_call 350;refine(HO.o _).mono ?_;rintro e w5 ⟨rfl,rfl⟩)
      go_wp2_with rfl;refine KO (G.o _ C4) λr9=>?_;refine tk 3 ?_;refine tk 4 ?_
     ·
      refine ZJ ⟨?_⟩;refine tk 10 ?_;refine O5 ⟨?_⟩;refine C2 ⟨?_⟩;refine RQ ⟨?_⟩;exact OY
        
     refine ZJ ⟨?_⟩;refine tk 10 ?_;refine O5 ⟨?_⟩;refine Sv ⟨?_⟩;refine tk 18 ?_;refine tk 19 ?_;refine rd 20 λK hK=>?_;go_simp
     (go_at_call 351;refine(HU.o _).mono ?_;rintro e w5 ⟨rfl,rfl⟩)
     go_wp2_with rfl;refine KO (G.o _ C4) λr9=>?_;refine tk 21 ?_;refine tk 22 ?_;refine RQ ⟨?_⟩;exact PR
    have HQ2:=I (show Z=decide (v3+v4<v1+v2)from HQ.o);clear ht;go_upto_region 10 with rfl;unfold U3 at G;refine kp G C4 λr9=>?_
    refine ta ⟨?_⟩;refine tk 14 ?_;refine UN ⟨?_⟩;refine tk 21 ?_;refine rd 15 λK hK=>?_;go_simp
    (go_at_call 351;refine(HU.o _).mono ?_;rintro e w5 ⟨rfl,rfl⟩)
    go_wp2_with rfl;refine KO (G.o _ C4) λr9=>?_;refine tk 16 ?_;refine tk 17 ?_;refine rd 22 λK hK=>?_;go_simp
    (go_at_call 350;refine(HO.o _).mono ?_;rintro e w5 ⟨rfl,rfl⟩)
    go_wp2_with rfl;refine KO (G.o _ C4) λr9=>?_;refine RQ ⟨?_⟩;refine tk 26 ?_;refine tk 27 ?_;refine ST k8 ?_ _;go_wp2_with rfl;go_meet;exact⟨by rw[HQ2.o],I (XS.o.trans C4)⟩
   obtain⟨rfl,XC⟩:=hcut;cases hb:Z
   ·have hb:=HZB.o.symm.trans hb;have ahq:=I (show kw (IC k V) x (y+1)=true by rw[sW,L9.o,hb];rfl);clear hb;go_wp2_with rfl;refine Pq ?_;exact⟨y+1,I (l8 HB.o),by go_num,ahq,XC⟩
   have hb:=HZB.o.symm.trans hb;have IY:=I (show IK (IC k V) n n=false from yC hb hlt hlb);clear hb;go_wp2_with rfl
   go_ret3
   exact⟨⟨_,_,eX (by rw[HZ.o,IY.o];rfl)⟩,HX.o.trans XC.o⟩
  have OG:y=n:=l8 HB.o;subst OG;have ahr:=I (show IK (IC k V) y (x+1)=true by rw[vD,Sc.o,L9.o];rfl);exact Of
 exact S5
theorem Xt{p:Int}{cap:Nat}(h:d6 w a n cap V)(k:Nat)(H:k=1∨k=2∨k=3):
 f9 267 #[Id p a n cap,U k] w (ato (dg k p V)):=by
 have HX:=I (D4.alloc w (SH #[U p,FB a n cap] 31));refine Fn (Ue (p:=p) (h.ext HX) k H) (λ(w':J) (hx:D4 w w')=>bY (p:=p) (h.ext hx)) h.hlen λHK HV K=>?_;have HP:=I (show dg k p V=(ak p V&&IK (IC k V) n n)by unfold dg;rw[K.o]);generalize dg k p V=z at HP⊢;generalize IK (IC k V) n n=y1 at HK HP;exact VS
section
variable{w:J}{p:Int}{a:o6}{n cap:Nat}{V:o7}
theorem CG(h:d6 w a n cap V):f9 192 #[Id p a n cap] w (ato (dg 1 p V)):=by
 have X2:=I (D4.alloc w (SH #[U p,FB a n cap] 31));have G:=I (Xt (p:=p) (h.ext X2) 1 (.inl rfl));(try unfold f9);go_in
 go_wp2_with rfl;refine i6 G λw1 hx=>?_;exact Ni
theorem G9(h:d6 w a n cap V):f9 193 #[Id p a n cap] w (ato (dg 2 p V)):=by
 have X2:=I (D4.alloc w (SH #[U p,FB a n cap] 31));have G:=I (Xt (p:=p) (h.ext X2) 2 (.inr (.inl rfl)));(try unfold f9);go_in
 go_wp2_with rfl;refine i6 G λw1 hx=>?_;exact Ni
theorem EJ(h:d6 w a n cap V):f9 194 #[Id p a n cap] w (ato (dg 3 p V)):=by
 have X2:=I (D4.alloc w (SH #[U p,FB a n cap] 31));have G:=I (Xt (p:=p) (h.ext X2) 3 (.inr (.inr rfl)));(try unfold f9);go_in
 go_wp2_with rfl;refine i6 G λw1 hx=>?_;exact Ni
end
end
section
variable{V:o7}{w w':J}{x:Int}{a:o6}{m n cb b:Nat}
def Rp(_:Nat):Int:=1
def pH(p:Int)(V:o7)(k:Nat):o3:=if ak p V=true then NV Rp V ((Lp V:Int)/2) k else []
def it(p:Int)(V:o7):o3:=pH p V p.toNat
theorem lH{p:Int}(k:Nat)(h:ak p V=false):pH p V k=[]:=by simp[pH,h]
theorem kO{p:Int}(k:Nat)(h:ak p V=true):pH p V k=NV Rp V ((Lp V:Int)/2) k:=by simp[pH,h]
theorem oC(p:Int)(V:o7):Lp (it p V)<=5:=by
 unfold it;cases h:ak p V
 ·rw[lH _ h];simp
 obtain⟨n,rfl,_,G,_⟩:=ap h;rw[kO _ h,kN];simpa using G
theorem sH(x:Int)(w:J):Calls prog 123 #[U x] w λe w'=>e=atn (U 1)/\w=w':=by
 go_in
 go_wp2;go_ret;exact⟨rfl,rfl⟩
theorem qQ:Rd prog 123:=cE func123 k8 k8
theorem ug{cap:Nat}(h:d6 w a m cap V):
 Calls prog 59 #[Id x a m cap] w λe w'=>(∃v,e=atn (.tuple #[v,ato (ak x V)])/\ZM w' w v (it x V))/\D4 w w':=by
 have hi:=h.alloc (SH #[U x,FB a m cap] 31);refine Op (D4.alloc w (SH #[U x,FB a m cap] 31)) h.hlen hi (bV (p:=x) hi) λHX HL HI K=>?_;clear h hi;cases G:ak x V
 ·rw[G]at K;have Z:=I G;clear G;go_in
  go_wp2_with rfl;refine i6 K λH hx=>?_;go_wp2;refine GE Ns rfl ⟨⟨_,rfl,by unfold it;rw[lH _ Z.o];exact og⟩,HX.trans hx⟩
 rw[G]at K;obtain⟨n,rfl,h1,h5,hlen,_,Kw⟩:=ap G;have Z:=I G;have hm:m=cN n:=l8 HL.o;have hN:=bp n h5;have HM:=I hm;have IY:=I Kw;have Zu:m<=32:=O;clear G hlen Kw hm hN;go_in
 go_wp2_with rfl;refine qc K λH hx=>?_;have c0:H.cell? (IM w 0)=some (U n):=hx.o9 j9;have c1:H.cell? (IM w 1)=some (FB a m cap):=hx.o9 j9;have X1:=I (HX.trans hx);have Oo:=I (HI.ext hx);have HT:e9 (iK prog H 123 #[] 6 Rp):=I λs w2 _ _=>(sH _ w2).mono λe w3 ⟨he,hw⟩=>⟨he,hw▸So⟩;go_wp2_with rfl;refine(sR Oo.o h1 h5 HM.o IY.o (λ_=>by unfold Rp;omega) qQ HT).mono ?_;rintro e w2 ⟨⟨v,rfl,ho⟩,hx⟩;have hs:=X1.size;go_wp2;refine GE Ns rfl ⟨⟨_,rfl,?_⟩,X1.trans hx⟩;unfold it;rw[kO _ Z.o,HL.o];exact ho.mono O
theorem uD{cap:Nat}(h:d6 w a m cap V):
 Calls prog 100 #[Id x a m cap] w λe w'=>(∃v,e=atn (.tuple #[v,ato (ak x V)])/\ZM w' w v (it x V))/\D4 w w':=by
 have hi:=h.alloc (SH #[U x,FB a m cap] 31);refine Op (D4.alloc w (SH #[U x,FB a m cap] 31)) h.hlen hi (ZM.made (w.alloc (SH #[U x,FB a m cap] 31)) (w+1) j9) λHX HL HI HO=>?_;have⟨y7,y8⟩:=h.ath;clear h hi;cases hv:ak x V
 ·have Hb:=I hv;clear hv;go_in
  go_wp2
  go_loopw [4,5] (λo i wr=>∃(a1:o6) (n1 p1:Nat),i=U 0/\o=FB a1 n1 p1/\e9 (ZM wr (w+1) (FB a1 n1 p1) [])/\e9 (D4 (w.alloc (SH #[U x,FB a m cap] 31)) wr)) (λ_ i _=>0)
  ·exact⟨_,_,_,rfl,rfl,I (by simpa using HO.o),I ZL⟩
  obtain⟨a1,n1,p1,rfl,rfl,FM,aa⟩:=hrel;have c0:wr.cell? (IM w 0)=some (U x):=aa.o9 j9;have c1:wr.cell? (IM w 1)=some (FB a m cap):=aa.o9 j9;have HI2:=I (HI.ext aa);have Z:=I (bY (p:=x) HI2);rw[Hb.o]at Z;by_cases hlt:(0:Int)<x
  ·go_wp2_with rfl;refine qc Z λw2 K=>?_;refine Fn (HI2.ext K) (aa.trans K) (FM.ext K) λHI3 C7 C8=>?_;replace c0:=K.o9 c0;replace c1:=K.o9 c1;have Z:=I (bY (p:=x) HI3);rw[Hb.o]at Z;go_wp2_with rfl;refine i6 Z λw3 H=>?_;go_wp2;refine GE Wz rfl ⟨⟨_,rfl,by unfold it;rw[lH _ Hb.o];exact(C8.ext H).mono O⟩,HX.trans (C7.trans H)⟩
  go_wp2_with rfl;refine i6 Z λw3 H=>?_;go_wp2;refine GE Wz rfl ⟨⟨_,rfl,by unfold it;rw[lH _ Hb.o];exact(FM.ext H).mono O⟩,HX.trans (aa.trans H)⟩
 obtain⟨n,rfl,h1,h5,hlen,_,Kw⟩:=ap hv;have Hb:=I hv;have hm:m=cN n:=l8 HL.o;have hN:=bp n h5;have HM:=I hm;have IY:=I Kw;have Zu:m<=32:=O;clear hv hlen Kw hm hN;go_in
 go_wp2
 go_loopw [4,5] (λo i wr=>∃(k:Nat) (a1:o6) (n1 p1:Nat),k<=n/\i=U k/\o=FB a1 n1 p1/\e9 (ZM wr (w+1) (FB a1 n1 p1) (pH (n:Int) V k))/\e9 (D4 (w.alloc (SH #[U n,FB a m cap] 31)) wr)) (λ_ i _=>n-(intOf i).toNat)
 ·exact⟨0,_,_,_,ef _,rfl,rfl,I (by rw[kO _ Hb.o,oB];simpa using HO.o),I ZL⟩
 obtain⟨k,a1,n1,p1,hk,rfl,rfl,HO1,A6⟩:=hrel;have c0:wr.cell? (IM w 0)=some (U n):=A6.o9 j9;have c1:wr.cell? (IM w 1)=some (FB a m cap):=A6.o9 j9;have Oo:=I (HI.ext A6);have Z:=I (bY (p:=(n:Int)) Oo);rw[Hb.o]at Z;by_cases hlt:k<n
 ·go_wp2_with rfl;refine qc Z λw2 K=>?_;refine Fn (Oo.ext K) (A6.trans K) (HO1.ext K) λHI2 aa FM=>?_;replace c0:=K.o9 c0;replace c1:=K.o9 c1;have FA:A8 (k:Int) 0 4=true:=by unfold A8;simp;omega
  have HC:=I (wW (k:Int) FA);clear FA;go_wp2
  go_loopw [6,7] (λt i wr2=>∃(j:Nat),j<=m/\i=U j/\t=U (KQ Rp V k j)/\e9 (D4 w2 wr2)) (λ_ i _=>m-(intOf i).toNat)
  ·exact⟨0,ef _,rfl,rfl,I So⟩
  obtain⟨j,hj,rfl,ht,C7⟩:=hrel;have⟨T,hT⟩:=j7 (KQ Rp V k j);have hTb:=pG IY.o (λi=>by unfold Rp;omega) k j (wt:=Rp);rw[<-hT]at ht hTb;subst ht;have HT:=I hT;clear hT;have c1':=C7.o9 c1;by_cases F4:j<m
  ·have HI3:=I (HI2.ext C7);have⟨b,off,he,hc⟩:=HI3.at F4;have Lh:=du IY.o j;have⟨v1,HY1⟩:=Ok (V[j]?.getD 0);rw[<-HY1.o]at hc Lh;subst he;have hb:=dG (j:Int) k O O;cases G:M2 (j:Int) k
   ·rw[G]at hb;have HB:=I G;have Hy:=I hb;have hu:=WS h5 (by rw[<-HM.o];exact F4) hlt G;obtain⟨u,Qm⟩:∃u:Nat,u=j+2^k:=⟨_,rfl⟩;have hui:(j:Int)+2^k=(u:Int):=by rw[Qm];simp
    have hum:u<m:=by rw[HM.o,Qm];exact hu
    have⟨b2,off2,US,IH⟩:=HI3.at hum;obtain⟨rfl,rfl⟩:=er US;clear US;have OB:=du IY.o u;have⟨v2,Mz⟩:=j7 (V[u]?.getD 0);rw[<-Mz]at IH OB;have HY2:=I Mz;have HU:=I Qm;have e1:=dc (T+v2);have e2:=dc (T+v2-v1);have e3:IntKind.i64.wrap ((j:Int)+2^k)=(u:Int):=by rw[hui,j0];omega
    have r7:=D4.drew wr;have aev:u<=32:=O;clear Mz G hu hui Qm hb Lh OB hTb;go_wp2_with (go_at_call 173;refine cR (bE _ _ _ O) ?_;rw[Hy.o])
    go_region_held3 (λw'=>w'.cell? (IM w 1)=some (FB (some (IM b off)) m cap)/\w'.cell? (IM b (off+u))=some (U v2)/\w'.cell? (IM b (off+j))=some (U v1)/\D4 wr w')
     (exact⟨r7.o9 c1',r7.o9 IH,r7.o9 hc,r7⟩)
     (first
       | (go_at_call 176;refine cR (uJ _ _) ?_;rw[HC.o]))
    go_wp2
    go_roundw
    case rel=>exact⟨j+1,by omega,by go_num,by unfold KQ;rw[HB.o,<-HT.o,<-HU.o,<-HY2.o,<-HY1.o];simp[Rp];omega,I (C7.trans r7)⟩
    exact k9
   rw[G]at hb;have HB:=I G;have Hy:=I hb;clear G hb;go_wp2_with (go_at_call 173;refine cR (bE _ _ _ O) ?_;rw[Hy.o])
   go_roundw
   case rel=>exact Za
   exact k9
  have Nh:j=m:=O;subst Nh;obtain⟨p,q,ok,Fw⟩:∃p q ok,aN T ((j:Int)/2)=((p,q),ok):=⟨_,_,_,rfl⟩;refine Fn Fw (aa.trans C7) (FM.ext C7) λGi Wr C8=>?_;have J0:w.heap.size+1<=wr.heap.size:=by have:=Wr.size;simpa using this
  clear Fw;go_wp2_with rfl;refine qc (mK _ _ _) λw3 H=>?_;rw[Gi.o];have X3:=I (Wr.trans H);have Gh:=I (C8.ext H);have MC:=H.size
  go_wp2_with (first
   | (at_builtin;refine cH rfl _ _ rfl (w+1) (FB a1 n1 p1) _ rfl ((Gh.ext ZL).ext ZL) _ 1 _ [(p,q)] rfl (z6 j9) (by rw[kO _ Hb.o,kN];omega) t8 ?_;intro v2 w4 ho hg r';obtain⟨a2,n2,c2,rfl,Jb⟩:=ho.var;have Fj:=I ho;have HG4:=I hg;clear ho hg r'))
  go_roundw
  case rel =>
   refine⟨k+1,a2,n2,c2,by omega,by go_num,rfl,I ?_,I ?_⟩
   ·have:=Fj.o;rw[kO _ Hb.o]at this⊢;rw[HL.o]at this;rw[oA,nx,HL.o,<-HT.o,Gi.o];exact this
   exact aj (X3.trans (ZL.trans ZL)) HG4.o (λj hj=>by have:=(Gh.lt j hj).1;simpa using this)
  exact k9
 go_wp2_with rfl;refine i6 Z λw3 H=>?_;go_wp2;have E':k=n:=O;subst E';refine GE Wz rfl ⟨⟨_,rfl,by unfold it;exact(HO1.ext H).mono O⟩,HX.trans (A6.trans H)⟩
structure gT(w:J)(a:o6)(n cap:Nat):Prop where
 y7:n<=cap
 y8:cap<=9223372036854775807
 cell:∀k,k<n->∃b off,a=some (IM b off)/\∀k,k<n->∃x:Int,w.cell? (IM b (off+k))=some (.int .u8 x)/\0<=x/\x<=255
theorem gT.ath{w:J}{a:o6}{n cap:Nat}(h:gT w a n cap):n<=cap/\cap<=9223372036854775807:=⟨h.y7,h.y8⟩
theorem gT.ext{cap:Nat}(h:gT w a n cap)(hx:D4 w w'):gT w' a n cap :=
 ⟨h.y7,h.y8,λk G=>let⟨b,off,e,hc⟩:=h.cell k G;⟨b,off,e,λk G=>let⟨x,K,H⟩:=hc k G;⟨x,hx.o9 K,H⟩⟩⟩
theorem gT.at{cap:Nat}(h:gT w a n cap){k:Nat}(G:k<n):∃b off x,a=some (IM b off)/\w.cell? (IM b (off+k))=some (.int .u8 x)/\0<=x/\x<=255 :=
 let⟨b,off,e,hc⟩:=h.cell k G;let⟨x,h1,h2,h3⟩:=hc k G;⟨b,off,x,e,h1,h2,h3⟩
def LI(w:J)(cb:Nat):Prop:=∃(ba:o6) (bn bc:Nat) (i h:Int),w.heap[cb]?=some (SH #[FB ba bn bc,U i,U h] 72 (0,0))/\gT w ba bn bc/\0<=i/\i<=bn/\∀b off,ba=some (IM b off)->0<bn->b<cb
theorem LI.lt(h:LI w cb):cb<w.heap.size:=by obtain⟨_,_,_,_,_,h,_⟩:=h;exact IO h
theorem LI.ext(h:LI w cb)(hx:D4 w w'):LI w' cb:=by
 have G:=h.lt;obtain⟨ba,bn,bc,i,v,Q,K,H⟩:=h;exact⟨ba,bn,bc,i,v,(hx.block _ G).trans Q,K.ext hx,H⟩
def Sj(s:Nat)(k:Nat):Nat:=(List.range k).countP λj=>M2 (s:Int) j
theorem Ew(s k:Nat):Sj s (k+1)=Sj s k+if M2 (s:Int) k then 1 else 0:=by
 unfold Sj;rw[mr,List.countP_append];simp[List.countP_cons]
theorem q9(s k:Nat):Sj s k<=k:=by unfold Sj;exact bR Pz j9
theorem Xu(s:Nat)(hs:s<4294967296)(w:J):Calls prog 174 #[.int .i64 (s:Int)] w λe w'=>e=.returned (.int .i64 (Sj s 5:Int))/\w=w':=by
 go_enter func174,ntmps174
 go_wp2_with rfl
 go_loop [3,4] (λQ G=>∃k:Nat,k<=5/\G=.int .i64 (k:Int)/\Q=.int .i64 (Sj s k:Int)) (λ_ G=>5-(intOf G).toNat)
 case atStart=>exact⟨0,by omega,rfl,rfl⟩
 case round =>
  obtain⟨k,hk,rfl,rfl⟩:=hrel;have hple:=q9 s k;by_cases hlt:k<5
  ·have K:=I (bE (s:Int) (k:Int) w O);have HB:=I (dG (s:Int) k O O);have H:=I (Ew s k);cases hb:M2 (s:Int) k
   all_goals
    rw[HB.o,hb]at K;rw[hb]at H;clear hb;go_wp2_with rfl;refine K.o.mono ?_;rintro e w' ⟨rfl,rfl⟩;go_wp2_with rfl
    go_round
    case rel=>exact⟨k+1,by omega,by go_num,by rw[H.o];go_num⟩
    case measure=>simp[intOf];omega
  ·have Z:k=5:=by omega
   subst Z;go_wp2_with rfl;go_ret;exact⟨rfl,rfl⟩
def Ts(V:o7):Prop:=∀k:Nat,-100<=V[k]?.getD 0/\V[k]?.getD 0<=100
theorem Nq(hg:w.grownBy w' (some cb))(hb:b<w.heap.size)(G:b≠cb):w'.heap[b]?=w.heap[b]?:=hg.block b hb λe=>G (iv e)
structure G0(w w':J)(cb most n vb:Nat)(V:o7):Prop where
 lo:1<=n
 hi:n<=most
 len:V.length=cN n
 tiny:Ts V
 zero:V[0]?.getD 0=0
 row:kg w' vb 3 V
 new:w.heap.size<=vb
 ne:vb≠cb
structure DS(w wr:J)(cb vb gb rb n:Nat)(V:o7):Prop where
 row:kg wr vb 3 V
 cur:LI wr cb
 gbk:wr.heap[gb]?=some (SH #[U n,GT vb (cN n) (cN n)] 31 (0,0))
 rbk:wr.heap[rb]?=some (SH #[U 0,d9] 31 (0,0))
 grown:w.grownBy wr (some cb)
 apart:vb≠cb/\gb≠cb/\rb≠cb/\gb≠vb/\rb≠vb/\rb≠gb/\w.heap.size<=vb/\w.heap.size<=gb/\w.heap.size<=rb
theorem d6.lit(w:J)(l:o7)(t:TypeId)(G:Lp l<=9223372036854775807):d6 (w.alloc (SH (bF l) t)) (some (IM w 0)) (Lp l) (Lp l) l :=
 kg.ints (nE w _) rfl (m9 _) G
def fu:Nat->Int
 | 0=>1
 | k+1=>((k:Int)+1)*fu k
def dF(n:Int):Int:=fu n.toNat
theorem kR(m:Nat)(h:m<=5):1<=fu m/\fu m<=120:=by
 have:m=0∨m=1∨m=2∨m=3∨m=4∨m=5:=O;rcases this with rfl|rfl|rfl|rfl|rfl|rfl<;>decide
def XG(n i:Nat):Int:=fu i*fu (n-1-i)
theorem Sb(n i:Nat)(hn:n<=5)(hi:i<=5):0<=XG n i/\XG n i<=1000:=by
 have G:∀n:Fin 6,∀i:Fin 6,0<=XG n.val i.val/\XG n.val i.val<=1000:=by decide +kernel
 exact G ⟨n,by omega⟩ ⟨i,by omega⟩
def S6(n i:Nat):Int:=if i<=5 then XG n i else 0
theorem zi(n:Nat)(G:n<=5)(i:Nat):-1000<=S6 n i/\S6 n i<=1000:=by
 unfold S6;split
 ·have:=Sb n i G Ux;omega
 omega
def tL(p:Int)(V:o7)(k:Nat):o3:=if ak p V=true then NV (S6 p.toNat) V (dF p) k else []
def fW(p:Int)(V:o7):o3:=tL p V p.toNat
theorem ps{p:Int}(k:Nat)(h:ak p V=false):tL p V k=[]:=by simp[tL,h]
theorem rP{p:Int}(k:Nat)(h:ak p V=true):tL p V k=NV (S6 p.toNat) V (dF p) k:=by simp[tL,h]
theorem pr(p:Int)(V:o7):Lp (fW p V)<=5:=by
 unfold fW;cases h:ak p V
 ·rw[ps _ h];simp
 obtain⟨n,rfl,_,G,_⟩:=ap h;rw[rP _ h,kN];simpa using G
theorem xq{n:Int}{j:Nat}(G:j=0∨(j:Int)+1<=n)(h2:¬(j:Int)+2<=n):fu (j+1)=dF n:=by
 unfold dF;rcases G with rfl|G
 ·have:n.toNat=0∨n.toNat=1:=by omega
  rcases this with h|h<;>rw[h]<;>decide
 rw[show n.toNat=j+1 by omega]
def I5(h:σ:=by
 go_in
 go_wp2
 go_loop [3,4] (λo i=>∃j:Nat,e9 (j=0∨(j:Int)+1<=n)/\i=U ((j:Int)+2)/\o=U (fu (j+1))) (λ_ i=>(8-intOf i).toNat)
 ·exact⟨0,I (.inl rfl),by simp,by rfl⟩
 case round =>
  obtain⟨j,HJ,rfl,hT⟩:=hrel;have⟨T,hT'⟩:=j7 (fu (j+1));rw[<-hT']at hT;subst hT;have HT:=I hT';clear hT';have hj5:j<=4:=by have:=HJ.o;omega
  by_cases hlt:(j:Int)+2<=n
  ·have hmul:IntKind.i64.wrap (T*((j:Int)+2))=fu (j+2):=by
    have h1:T*((j:Int)+2)=fu (j+2):=by rw[HT.o];show _=(((j+1:Nat):Int)+1)*fu (j+1);rw[vT];congr 1
    have h2:=kR (j+2) O;rw[h1,j0];omega
   go_wp2
   go_round
   case rel=>exact⟨j+1,I (.inr O),by go_num,by rfl⟩
   simp[intOf];omega
  have HE:=I (xq HJ.o hlt);go_wp2;go_ret;exact⟨au (by rw[HT.o,HE.o]),rfl⟩
 ):σ:=h
theorem qs(n:Int)(hn:n<=5)(w:J):Calls prog 121 #[U n] w λe w'=>e=atn (U (dF n))/\w=w':=by
 exact I5
theorem mM(n:Int)(hn:n<=5)(w:J):Calls prog 175 #[U n] w λe w'=>e=atn (U (dF n))/\w=w':=by
 exact I5
theorem sQ(s n:Nat)(hs:s<=5)(h1:1<=n)(h5:n<=5)(hc:w.cell? (IM b 0)=some (U n)):f9 120 #[U s,ats (some (IM b 0))] w (U (S6 n s)):=by
 have G:=I (show dF (s:Int)*dF ((n:Int)-1-(s:Int))=S6 n s by
  unfold S6 XG dF;rw[i7 hs,show((n:Int)-1-(s:Int)).toNat=n-1-s by omega];rfl)
 have H:=kR s hs;have K:=kR (n-1-s) O;have hA1:1<=dF (s:Int)/\dF (s:Int)<=120:=by unfold dF;rw[eI];exact H
 have hB1:1<=dF ((n:Int)-1-(s:Int))/\dF ((n:Int)-1-(s:Int))<=120:=by unfold dF;rw[show((n:Int)-1-(s:Int)).toNat=n-1-s by omega];exact K
 have hm:=tT (x:=dF (s:Int)) (y:=dF ((n:Int)-1-(s:Int))) O O O O;have e1:IntKind.i64.wrap (dF (s:Int)*dF ((n:Int)-1-(s:Int)))=S6 n s:=by rw[<-G.o,j0];omega
 have e2:=dc ((n:Int)-1);have e3:=dc ((n:Int)-1-(s:Int));unfold f9;go_in
 go_wp2
 go_quiet ((go_at_call 121;exact be (qs _ O _)))
 go_wp2;go_ret;exact⟨rfl,F8.ext ⟨_,rfl⟩⟩
theorem qS:Rd prog 120:=cE func120 k8 k8
theorem mG{cap:Nat}(h:d6 w a m cap V):
 Calls prog 57 #[Id x a m cap] w λe w'=>(∃v,e=atn (.tuple #[v,ato (ak x V)])/\ZM w' w v (fW x V))/\D4 w w':=by
 have hi:=h.alloc (SH #[.int .i64 x,FB a m cap] 31);refine Op (D4.alloc w (SH #[.int .i64 x,FB a m cap] 31)) h.hlen hi (bV (p:=x) hi) λHX HL HI G=>?_;clear h hi;cases hv:ak x V
 ·rw[hv]at G;have Z:=I hv;clear hv;go_in
  go_wp2_with rfl;refine i6 G λw1 hx=>?_;go_wp2;refine GE Lz rfl ⟨⟨_,rfl,by unfold fW;rw[ps _ Z.o];exact og⟩,HX.trans hx⟩
 rw[hv]at G;obtain⟨n,rfl,h1,K,hlen,_,Kw⟩:=ap hv;have Z:=I hv;have hm:m=cN n:=l8 HL.o;have HM:=I hm;have IY:=I Kw;clear hv hlen Kw hm;go_in
 go_wp2_with rfl;refine i6 G λw1 hx=>?_;have c0:w1.cell? ⟨w,0,none⟩=some (.int .i64 (n:Int)):=hx.o9 j9;have c1:w1.cell? ⟨w,1,none⟩=some (FB a m cap):=hx.o9 j9;have X1:=I (HX.trans hx);have⟨W,hW⟩:=j7 (w1.alloc (SH #[.int .i64 (n:Int)] 3));have N':D4 w1 W:=by rw[hW];exact ZL
 have Oo:=I ((HI.ext hx).ext N');have XW:=I (X1.trans N');have cn:W.cell? ⟨w1,0,none⟩=some (.int .i64 (n:Int)):=by rw[hW];simp
 have HT:e9 (iK prog W 120 #[ats (some ⟨w1,0,none⟩)] 6 (S6 n)):=I λs w2 hs C9=>sQ s n O h1 K (C9.o9 cn)
 clear hx;go_upto_region 4 with rfl;rw[<-hW];replace c0:=N'.o9 c0;replace c1:=N'.o9 c1;clear hW N';have r7:=D4.drew W;have r8:=I λw' (h:D4 W w')=>TX (h.o9 c0) (TX (h.o9 c1) (TX (h.o9 cn) h));have H:=XW.size
 go_region_held3 (λw'=>w'.cell? ⟨w,0,none⟩=some (.int .i64 (n:Int))/\w'.cell? ⟨w,1,none⟩=some (FB a m cap)/\w'.cell? ⟨w1,0,none⟩=some (.int .i64 (n:Int))/\D4 W w')
  (first
    | with_reducible exact r8.o _ r7)
  (first
    | ((with_reducible refine(qs _ O _).mono ?_)
       rintro e w4 ⟨rfl,rfl⟩)
    | ((with_reducible refine(sR (Oo.o.ext r7) h1 K HM.o IY.o (zi n K) qS (HT.o.ext r7)).mono ?_)
       rintro e w5 ⟨⟨v5,rfl,Of⟩,F'⟩;have O5:=I Of;have r7:=r7.trans F';clear Of F'))
 all_goals go_wp2_with rfl
 all_goals refine GE Lz rfl ⟨⟨_,rfl,?_⟩,XW.trans r7⟩
 all_goals
  unfold fW;rw[rP _ Z.o,eI];exact O5.mono (by simpa using H)
theorem X7{q:Nat}(G:q<=5):dF (q:Int)*dF ((n:Int)-(q:Int)-1)=S6 n q:=by
 unfold S6 XG dF;rw[i7 G,show((n:Int)-(q:Int)-1).toNat=n-1-q by omega];rfl
theorem xp{n:Int}(h:n<=5):1<=dF n/\dF n<=120:=kR _ O
theorem mL{cap:Nat}(h:d6 w a m cap V):
 Calls prog 99 #[Id x a m cap] w λe w'=>(∃v,e=atn (.tuple #[v,ato (ak x V)])/\ZM w' w v (fW x V))/\D4 w w':=by
 have⟨W,H⟩:=j7 (w.alloc (SH #[.int .i64 x,FB a m cap] 31));have Fp:=I (show W.heap.size=w.heap.size+1 by rw[H];simp);have HX:=I (show D4 w W by rw[H];exact ZL);have Q5:=I (show W.cell? ⟨w,0,none⟩=some (.int .i64 x)by rw[H];simp);have RU:=I (show W.cell? ⟨w,1,none⟩=some (FB a m cap)by rw[H];simp);have HO:=I (show ZM (W.alloc (SH #[] 80)) (w+1) (FB (some ⟨w.heap.size+1,0,none⟩) 0 0) []by
  have:=ZM.made (w.alloc (SH #[.int .i64 x,FB a m cap] 31)) (w+1) j9;rw[H];simpa using this)
 have HL:=I h.hlen;have HI:=I (h.ext HX);have y8:=h.y8;have y7:=h.y7;have HV:=I (bY (p:=x) (HI.ext (D4.alloc W (SH #[] 80))));clear h;cases K:ak x V
 ·have Hb:=I K;rw[K,H]at HV;clear K;go_in
  go_wp2_with rfl;refine HV.mono ?_;rw[<-H];rintro e w2 ⟨rfl,C9⟩;go_wp2;refine GE FF rfl ⟨⟨_,rfl,by unfold fW;rw[ps _ Hb.o];exact(HO.ext C9).mono O⟩,HX.trans (ZL.trans C9)⟩
 obtain⟨n,rfl,h1,h5,hlen,_,Kw⟩:=ap K;have Hb:=I K;have hm:m=cN n:=l8 HL.o;have hN:=bp n h5;have HM:=I hm;have IY:=I Kw;have Zu:m<=32:=O;rw[K,H]at HV;clear K hlen Kw hm hN;go_in
 go_wp2_with rfl;refine HV.mono ?_;rw[<-H];clear H;rintro e w1 ⟨rfl,B0⟩;have A6:=I ((D4.alloc W (SH #[] 80)).trans B0);have c0:=A6.o9 Q5.o;have HO1:=I (HO.ext B0);clear B0;go_wp2_with rfl;clear c0
 go_loopg [4,6] n (λgk o i wr=>∃(k:Nat) (a1:o6) (n1 p1:Nat),e9 (gk+k=n)/\i=.int .i64 (k:Int)/\o=FB a1 n1 p1/\e9 (ZM wr (w+1) (FB a1 n1 p1) (NV (S6 n) V (dF (n:Int)) k))/\e9 (D4 W wr))
 ·exact⟨0,_,_,_,I O,rfl,rfl,I (by rw[oB];exact HO1),A6⟩
 rename Nat=>g1;rename J=>A1;obtain⟨k,a1,n1,p1,HK,rfl,rfl,Ho,C7⟩:=hrel;have hsz:=C7.size;rw[Fp.o]at hsz;have c1:=C7.o9 RU.o;have Oo:=I (HI.ext C7);by_cases hlt:k<n
 ·have FA:A8 (k:Int) 0 4=true:=by unfold A8;simp;omega
  have HC:=I (Xp k O);have hp:=fk k;have Vv:=gG k O;go_wp2
  go_loopg [7,8] m (λgk t i wr=>∃j:Nat,e9 (gk+j=m)/\i=.int .i64 (j:Int)/\t=.int .i64 (KQ (S6 n) V k j)/\e9 (D4 A1 wr))
  ·exact⟨0,I O,rfl,rfl,I So⟩
  obtain⟨j,HJ,rfl,ht,C5⟩:=hrel;have⟨T,hT⟩:=j7 (KQ (S6 n) V k j);have hTb:=pG IY.o (zi n h5) k j;rw[<-hT]at ht hTb;subst ht;have HT:=I hT;clear hT;have c1':=C5.o9 c1;by_cases F4:j<m
  ·have HI3:=I (Oo.ext C5);have⟨b,off,he,hc⟩:=HI3.at F4;have Lh:=du IY.o j;have⟨v1,F7⟩:=j7 (V[j]?.getD 0);rw[<-F7]at hc Lh;have HY1:=I F7;clear F7;subst he;have hb:=dG (j:Int) k O O;cases G:M2 (j:Int) k
   ·rw[G]at hb;have HB:=I G;have Hy:=I hb;have hu:=WS h5 (by rw[<-HM.o];exact F4) hlt G;obtain⟨u,Qm⟩:∃u:Nat,u=j+2^k:=⟨_,rfl⟩;have hui:(j:Int)+2^k=(u:Int):=by rw[Qm];simp
    have hum:u<m:=by rw[HM.o,Qm];exact hu
    have⟨b2,off2,US,IH⟩:=HI3.at hum;simp only[Pi,gl,gi]at US;obtain⟨rfl,rfl⟩:=US;have OB:=du IY.o u;have⟨v2,Mz⟩:=j7 (V[u]?.getD 0);rw[<-Mz]at IH OB;have HY2:=I Mz;have HU:=I Qm;have Lk:=AN j;have⟨q,hq⟩:=j7 (QH j);rw[<-hq]at Lk;have HQ:=I hq;have Oc:=X7 (n:=n) Lk;have QP:=xp (n:=(q:Int)) O;have VB:=xp (n:=(n:Int)-(q:Int)-1) O;have hmb:=tT (x:=dF (q:Int)) (y:=dF ((n:Int)-(q:Int)-1)) O O O O;have⟨Wt,Z⟩:=j7 (S6 n q);have S9:=zi n h5 q;rw[<-Z]at S9 Oc;have Vx:=tT S9.1 S9.2 (y:=v2-v1) O O;have⟨X,hX⟩:=j7 (Wt*(v2-v1));rw[<-hX]at Vx;have JT:=I hX;have HWt:=I Z;have e0:IntKind.i64.wrap (dF (q:Int)*dF ((n:Int)-(q:Int)-1))=Wt:=by rw[<-Oc,j0];omega
    have e1:=dc (v2-v1);have e2:IntKind.i64.wrap (Wt*(v2-v1))=X:=by rw[<-hX,j0];omega
    have e3:IntKind.i64.wrap ((j:Int)+2^k)=(u:Int):=by rw[hui,j0];omega
    have e4:=dc (T+X);have e5:=dc ((n:Int)-(q:Int));have e6:=dc ((n:Int)-(q:Int)-1);have aev:u<=32:=O;have HPOP:=I (show(Sj j 5:Int)=(q:Int)by rw[hq];rfl);clear Mz G hu hui Qm hb Lh OB hTb hX Z S9 Vx hmb QP VB Oc hq hp Vv;go_wp2_with (first|(go_at_call 173;refine(bE _ _ _ O).mono ?_;rw[Hy.o];rintro e w' ⟨rfl,rfl⟩)|(go_at_call 174;refine(Xu j O _).mono ?_;rw[HPOP.o];rintro e w' ⟨rfl,rfl⟩))
    go_quiet ((first|(go_at_call 175;exact be (mM _ O _))|(go_at_call 176;exact be (HC _))))
    go_wp2;refine sq ?_;exact⟨j+1,I (l8 HJ.o),by go_num,by unfold KQ;rw[HB.o,<-HT.o,<-HU.o,<-HY2.o,<-HY1.o,<-HQ.o,<-HWt.o,<-JT.o];simp[go_sem,e4],I (C5.trans (F8.ext ⟨_,rfl⟩))⟩
   rw[G]at hb;have HB:=I G;have Hy:=I hb;clear G hb;go_wp2_with (go_at_call 173;refine(bE _ _ _ O).mono ?_;rw[Hy.o];rintro e w' ⟨rfl,rfl⟩)
   refine sq ?_;exact⟨j+1,I (l8 HJ.o),by go_num,by unfold KQ;rw[HB.o,<-HT.o];simp,C5⟩
  have Nh:m=j:=l8 HJ.o;subst Nh;obtain⟨p,q,ok,Fw⟩:∃p q ok,aN T (dF (n:Int))=((p,q),ok):=⟨_,_,_,rfl⟩;refine Fn Fw (C7.trans C5) (Ho.ext C5) λGi Wr C8=>?_;have J0:=Wr.size;rw[Fp.o]at J0;have GV:=I (λ(w':J)=>mK T (dF (n:Int)) w');rw[Gi.o]at GV;have UO:(n:Int)<=5:=O;clear Fw
  go_wp2_with (first
   | (go_at_call 175;refine cR (mM _ UO _) ?_)
   | (go_at_call 177;refine i6 (GV _) λw3 C0=>?_;have X3:=I (Wr.trans C0);have Gh:=I (C8.ext C0);have MC:=C0.size;clear C0)
   | (at_builtin;refine cH rfl _ _ rfl (w+1) (FB a1 n1 p1) _ rfl ((Gh.ext ZL).ext ZL) _ 1 _ [(p,q)] rfl (z6 j9) (by rw[kN];omega) t8 ?_;intro v2 w4 ho hg r';have X5:=I (aj (X3.trans (ZL.trans ZL)) hg (λj hj=>by rw[Fp.o];exact(Gh.lt j hj).1));obtain⟨a2,n2,c2,rfl,Jb⟩:=ho.var;have Fj:=I ho;clear ho hg r'))
  refine gy ?_;refine⟨k+1,a2,n2,c2,I (l8 HK.o),by go_num,rfl,I ?_,X5⟩;have:=Fj.o;rw[oA,nx,HL.o,<-HT.o,Gi.o];exact this
 have E':n=k:=l8 HK.o;subst E';go_wp2;refine GE FF rfl ⟨⟨_,rfl,by unfold fW;rw[rP _ Hb.o,eI];exact Ho.mono O⟩,HX.trans C7.o⟩
end
section
def tY{c:UInt8}:∀{a b:List UInt8},c∉a->Lib.indexByte (a++c::b) c=Lp a
 | [],b,_=>by simp[Lib.indexByte]
 | x::a,b,h=>by
   have H:¬x=c:=λe=>h (by rw[e];exact Zd)
   have G:=tY (b:=b) (λhm:c∈a=>h (dr _ hm))
   show(if(x == c)=true then(0:Int) else if(Lib.indexByte (a++c::b) c == -1)=true then -1 else Lib.indexByte (a++c::b) c+1)=_;rw[G,f8 (by simpa using H),f8 j9];simp
def Ak{c:UInt8}:∀{l:List UInt8},c∉l->Lib.indexByte l c=-1
 | [],_=>rfl
 | x::l,h=>by
   have H:¬x=c:=λe=>h (by rw[e];exact Zd)
   have G:=Ak (λhm:c∈l=>h (dr _ hm))
   show(if(x == c)=true then(0:Int) else if(Lib.indexByte l c == -1)=true then -1 else Lib.indexByte l c+1)=_;rw[G,f8 (by simpa using H),i7 FS]
def W'{c:UInt8}{a b:List UInt8}(h:c∉a):Lib.cut (a++c::b) [c]=(a,b,true):=by
 unfold Lib.cut;rw[SR,tY h,i7 O,eI,List.take_left,bA,NQ];rfl
def LQ{c:UInt8}{l:List UInt8}(h:c∉l):Lib.cut l [c]=(l,[],false):=by
 unfold Lib.cut;rw[SR,Ak h,f8 FS]
def DM(c:UInt8):∀(n:Nat) (l:List UInt8),Lp l<=n->Lib.join (E0 c l) [c]=l:=by
 intro n
 induction n with
 | zero=>intro l h;obtain rfl:=Md (Nat.le_zero.1 h);rfl
 | succ n ih =>
   intro l h;by_cases hm:c∈l
   ·obtain⟨a,b,rfl,H⟩:=iE hm;have hb:=ih b (by simp at h;omega);rw[nY H,Mt];have G:=iD c b;cases hs:E0 c b with
    | nil=>rw[hs]at G;simp at G
    | cons y r =>
      rw[hs,Mt]at hb;unfold Lib.joinTail at hb⊢;simp only[Zp,aB];rw[<-hb];simp
   rw[rQ hm,RB]
def oV(c:UInt8)(l:List UInt8):Lib.join (E0 c l) [c]=l:=DM c (Lp l) l (m9 _)
def EF{c d:UInt8}:∀(n:Nat) (l:List UInt8),Lib.count l [c]=n->Lib.replaceK [c] [d] n l=Lib.join (E0 c l) [d]:=by
 intro n
 induction n with
 | zero =>
   intro l h;have hm:c∉l:=λhm=>by
    rw[ds]at h;exact absurd h (Nat.ne_of_gt (List.count_pos_iff.2 hm))
   rw[rQ hm,RB];rfl
 | succ n ih =>
   intro l h;have hm:c∈l:=by
    rw[ds]at h;exact List.count_pos_iff.1 O
   obtain⟨a,b,rfl,G⟩:=iE hm;have hi:Lib.index (a++c::b) [c]=(Lp a:Int):=by rw[SR,tY G]
   have hb:Lib.count b [c]=n:=by
    rw[ds,List.count_append,List.count_eq_zero.2 G,List.count_cons_self,<-ds]at h;omega
   rw[Lib.replaceK_hit _ _ _ _ _ hi,bA,List.take_left,NQ,nY G,Mt];show a++[d]++Lib.replaceK [c] [d] n b=_;rw[ih b hb];have H:=iD c b;cases hs:E0 c b with
   | nil=>rw[hs]at H;simp at H
   | cons y r =>
     rw[Mt];unfold Lib.joinTail;simp
def XJ{c d:UInt8}(G:c≠d)(l:List UInt8):Lib.replaceAll l [c] [d]=Lib.join (E0 c l) [d]:=by
 unfold Lib.replaceAll Lib.replace;rw[f8 (by simpa using G)];unfold Lib.replaceNum;rw[i7 (uf FS)];exact EF _ l rfl
def AH{R:List (List UInt8)}(h:0<=aH (Lib.join R [32]) 6):Lp R=1:=by
 cases R with
 | nil=>exact absurd h FS
 | cons x r =>
   cases r with
   | nil=>rfl
   | cons y q =>
     refine absurd (zK h) (λG=>G ?_);rw[Mt];unfold Lib.joinTail;simp
def M7(L:List (List UInt8))(n d:Option Int)(t:List UInt8):Option (Int×Int) :=
 if Lp L=1 then(match n with|some x=>if FE (x,1)=t then some (x,1) else none|none=>none)
 else if Lp L=2 then(match n,d with|some x,some y=>if FE (x,y)=t then some (x,y) else none|_,_=>none) else none
def Mq(t:List UInt8):Option (Int×Int):=M7 (E0 47 t) (dm ((E0 47 t)[0]?.getD [])) (dm ((E0 47 t)[1]?.getD [])) t
structure St  where
 p:Int
 V:o7
 X:o3
def fM:List UInt8:=[119,104,97,116]
def PA:List UInt8:=[110,111]
def R6:List UInt8:=[111,107]
def jF(s:St)(k:Int):St×List UInt8:=if 1<=k/\k<=5 then(⟨k,List.replicate (cN k.toNat) 0,[]⟩,R6) else(s,PA)
def fC(s:St)(c w:List UInt8):St×List UInt8 :=
 match KB c,dm w with
 | some t,some v=>if 1<=t/\t<Lp s.V/\ak s.p (s.V.set t v)=true then(⟨s.p,s.V.set t v,[]⟩,R6) else(s,PA)
 | _,_=>(s,PA)
def kB(s:St)(k:Int):St×List UInt8:=if S0 k=[] then(s,PA) else(⟨Iq k,Ib k,[]⟩,R6)
def Ow(L:List (List UInt8)):Option (o3):=Nm (λk=>Mq (L[k]?.getD [])) L.length
def gq(s:St)(L:List (List UInt8)):St×List UInt8 :=
 match Ow L with
 | none=>(s,PA)
 | some X=>(⟨s.p,s.V,X⟩,if Gf s.p s.V X=true then [121,101,115] else [115,117,109])
def dR(s:St)(X:o3)(ok:Bool):St×List UInt8:=if ok=true then(⟨s.p,s.V,X⟩,Sg X) else(s,PA)
def WP(t:List UInt8):Nat :=
 if t=[115,104,97,112,108,101,121] then 0 else if t=[98,97,110,122,104,97,102] then 1 else if t=[108,101,97,115,116] then 2 else if t=[110,117,99,108,101,111,108,117,115] then 3 else if t=[99,111,114,101] then 4 else if t=[99,104,101,99,107] then 5 else if t=[119,111,114,115,116] then 6 else if t=[112,114,111,112,101,114,116,105,101,115] then 7 else if t=[115,104,111,119] then 8 else 9
def w9(t:List UInt8):((bs t).toList == [115,104,97,112,108,101,121])=(WP t == 0)/\((bs t).toList == [98,97,110,122,104,97,102])=(WP t == 1)/\((bs t).toList == [108,101,97,115,116])=(WP t == 2)/\((bs t).toList == [110,117,99,108,101,111,108,117,115])=(WP t == 3)/\((bs t).toList == [99,111,114,101])=(WP t == 4)/\((bs t).toList == [99,104,101,99,107])=(WP t == 5)/\((bs t).toList == [119,111,114,115,116])=(WP t == 6)/\((bs t).toList == [112,114,111,112,101,114,116,105,101,115])=(WP t == 7)/\((bs t).toList == [115,104,111,119])=(WP t == 8):=by
 rw[dd];unfold WP;have G:∀(x y:List UInt8),(x == y)=decide (x=y):=λx y=>by rw[uu];simp
 simp only[G];by_cases h0:t=[115,104,97,112,108,101,121]
 ·subst h0;decide
 rw[f8 h0];by_cases h1:t=[98,97,110,122,104,97,102]
 ·subst h1;decide
 rw[f8 h1];by_cases h2:t=[108,101,97,115,116]
 ·subst h2;decide
 rw[f8 h2];by_cases h3:t=[110,117,99,108,101,111,108,117,115]
 ·subst h3;decide
 rw[f8 h3];by_cases h:t=[99,111,114,101]
 ·subst h;decide
 rw[f8 h];by_cases Z:t=[99,104,101,99,107]
 ·subst Z;decide
 rw[f8 Z];by_cases Q:t=[119,111,114,115,116]
 ·subst Q;decide
 rw[f8 Q];by_cases K:t=[112,114,111,112,101,114,116,105,101,115]
 ·subst K;decide
 rw[f8 K];by_cases H:t=[115,104,111,119]
 ·subst H;decide
 rw[f8 H];exact⟨RK h0,RK h1,RK h2,RK h3,RK h,RK Z,RK Q,RK K,RK H⟩
def pM(t:List UInt8):WP t<=9:=by
 unfold WP
 repeat' split
 all_goals decide
def BX{t:List UInt8}(h:(32:UInt8)∈t):WP t=9:=by
 unfold WP;rw[f8 (λe=>by rw[e]at h;exact absurd h FS)];rw[f8 (λe=>by rw[e]at h;exact absurd h FS)];rw[f8 (λe=>by rw[e]at h;exact absurd h FS)];rw[f8 (λe=>by rw[e]at h;exact absurd h FS)];rw[f8 (λe=>by rw[e]at h;exact absurd h FS)];rw[f8 (λe=>by rw[e]at h;exact absurd h FS)];rw[f8 (λe=>by rw[e]at h;exact absurd h FS)];rw[f8 (λe=>by rw[e]at h;exact absurd h FS)];rw[f8 (λe=>by rw[e]at h;exact absurd h FS)]
def eC(w:List UInt8)(ok:Bool):List UInt8:=if ok=true then w else [45]
def iP(s:St):Int:=fi (ak s.p s.V) (bu s.p s.V) (bH az (dQ s.p.toNat (Lp s.V)) (ed s.p.toNat) (aY s.V))
def jQ(s:St):o3:=V4 (bu s.p s.V) (bH az (dQ s.p.toNat (Lp s.V)) (ed s.p.toNat) (aY s.V))
def oE(s:St):List UInt8 :=
 eC [99,111,114,101] (fK s.p s.V s.X)++([32]++(eC [102,97,105,114] (ak s.p s.V&&decide (fW s.p s.V=s.X))++([32]++eC [110,117,99,108,101,111,108,117,115] (jA s.p s.V s.X))))
def pD(s:St):List UInt8:=match fG s.p s.V s.X with
 | none=>PA
 | some r=>Lib.join (FE r.1::r.2.map λc=>bJ c) [32]
def lZ(s:St):List (List UInt8):=(if dg 1 s.p s.V=true then [[109,111,110,111,116,111,110,101]] else [])++((if dg 2 s.p s.V=true then [[115,117,112,101,114,97,100,100,105,116,105,118,101]] else [])++(if dg 3 s.p s.V=true then [[99,111,110,118,101,120]] else []))
def tl(s:St):List UInt8:=if lZ s=[] then [110,111,110,101] else Lib.join (lZ s) [32]
def N6(s:St):List UInt8:=Lib.join (E0 10 (if ak s.p s.V=true then eh s.p.toNat s.V else [])) [59]
def GZ(s:St)(k:Nat):St×List UInt8 :=
 match k with
 | 0=>dR s (fW s.p s.V) (ak s.p s.V)
 | 1=>dR s (it s.p s.V) (ak s.p s.V)
 | 2=>dR s (Oy s.p s.V) (KC s.p s.V)
 | 3=>dR s (JX s.p s.V).pt (JX s.p s.V).ok
 | 4=>(if iP s=1 then⟨s.p,s.V,jQ s⟩ else s,iu (iP s))
 | 5=>(s,oE s)
 | 6=>(s,pD s)
 | 7=>(s,tl s)
 | 8=>(s,N6 s)
 | _=>(s,fM)
def Na(s:St)(t:List UInt8):St×List UInt8:=GZ s (WP t)
def lT(s:St)(t:List UInt8)(L:List (List UInt8)):St×List UInt8 :=
 if Lp L=1 then Na s t
 else if L[0]?.getD []=K5 then(if 0<=aH (Lib.join (L.drop 1) [32]) 6 then jF s (aH (Lib.join (L.drop 1) [32]) 6) else(s,fM))
 else if L[0]?.getD []=[118,97,108,117,101] then(if Lp L=3 then fC s (L[1]?.getD []) (L[2]?.getD []) else(s,fM))
 else if L[0]?.getD []=[101,120,97,109,112,108,101] then(if 0<=aH (Lib.join (L.drop 1) [32]) 6 then kB s (aH (Lib.join (L.drop 1) [32]) 6) else(s,fM))
 else if L[0]?.getD []=[112,97,121,111,102,102] then gq s (L.drop 1)
 else(s,fM)
def cJ(s:St)(t:List UInt8):St×List UInt8:=lT s t (E0 32 t)
abbrev sess(p:Int)(a:o6)(n cap:Nat)(b:o6)(m dap:Nat):atY:=.agg #[.int .i64 p,FB a n cap,FB b m dap]
def Xn{w:J}{p:Int}{a:o6}{n cap:Nat}{V:o7}(h:d6 w a n cap V)(hb:n<=1048576):
 Calls Tryz.prog 107 #[Id p a n cap] w λe w'=>(∃v,e=atn (.agg #[U p,v])/\y9 w' w v V)/\D4 w w':=by
 have⟨W,G⟩:=j7 ((w.alloc (SH #[U p,FB a n cap] 31)).alloc (SH #[U 0,d9] 31));have H:=I (show W.heap.size=w.heap.size+2 by rw[G];simp);have Q:=show D4 w W by rw[G];exact ZL.trans ZL
 have c0:W.cell? (IM w 0)=some (U p):=by rw[G];simp
 have c1:W.cell? (IM w 1)=some (FB a n cap):=by rw[G];simp
 refine Op (show W.heap[w.heap.size+1]?=some (SH #[U 0,d9] 31 (0,0))by rw[G];exact LE j9) (h.ext Q) Q (y9.Ft W (w+2) (w+2) H.symm (by rw[H.o];exact m9 _)) λE6 HI HX HO=>?_;have⟨y7,y8⟩:=h.ath;have hlt:w.heap.size<W.heap.size:=by rw[H.o];omega
 have Zv:w.heap.size+1<W.heap.size:=by rw[H.o];omega
 go_in
 go_upto_region 1 with rfl;rw[<-G];clear G
 go_region_law (first
  | (refine bU _ rfl (aO _ _ rfl (w+2) (GT W 0 0) [] rfl (by rw[H.o];exact HO.ext fl) a n cap V rfl ((HI.ext ZL).ext fl) t8 (by simp[H.o]) ?_);intro v8 Z ho hg r';have XA:=(D4.alloc W (SH #[] 3)).trans fl;have K:=I ((XA).grown hg (λj hj=>by have:=iv (show some W.heap.size=some j from hj);omega));have c08:=D4.o9 K.o c0;have hr:=(K.block _ Zv).trans E6.o;have FH:=OV hr;have FL:=HH hr;have JR:=λk=>fy Z (w+1) k _ _ hr;obtain⟨a8,n8,p8,rfl,OU⟩:=ho.var;have Nt:=I ho))
 all_goals
  go_wp2;refine GE (by simp[results,Tryz.results107,go_sem,FH,FL]<;>rfl) rfl ⟨⟨_,rfl,?_⟩,?_⟩
  ·have:=Nt.o;rw[Nl]at this;exact(((y9.on this).set j9 _).set j9 _).here.mono O
  exact((HX.trans K).store 0 O _).store 1 O _
end
section
variable{w w' W:J}{base n m dap r n' cap' m' GH g Gl:Nat}{a b a' b':o6}{V:o7}{X:o3}{x y z:atY}{l:List UInt8}
structure aG(w:J)(base:Nat)(a:o6)(n cap:Nat)(b:o6)(m dap:Nat)(V:o7)(X:o3):Prop where
 v:y9 w base (FB a n cap) V
 x:ZM w base (FB b m dap) X
theorem aG.ext{cap:Nat}(h:aG w base a n cap b m dap V X)(hx:D4 w w'):aG w' base a n cap b m dap V X:=⟨h.v.ext hx,h.x.ext hx⟩
theorem aG.mono{base':Nat}{cap:Nat}(h:aG w base a n cap b m dap V X)(hb:base'<=base):aG w base' a n cap b m dap V X:=⟨h.v.mono hb,h.x.mono hb⟩
def D7(w:J)(base:Nat)(e:Ending)(r:St×List UInt8):Prop :=
 ∃a n cap b m dap,e=atn (.tuple #[sess r.1.p a n cap b m dap,atr (bs r.2)])/\aG w base a n cap b m dap r.1.V r.1.X
abbrev C6(w:J)(r:Nat)(x y z:atY):Prop:=w.heap[r]?=some (SH #[x,y,z] 34 (0,0))
abbrev Gx(w:J)(r:Nat)(x y z:atY):J:=((w.setCell ⟨r,0,none⟩ x).setCell ⟨r,1,none⟩ y).setCell ⟨r,2,none⟩ z
theorem C6.put(h:C6 w r x y z)(x' y' z':atY):C6 (Gx w r x' y' z') r x' y' z':=by
 have H:=aM w r 0 _ _ x' h;have G:=aM _ r 1 _ _ y' H;exact aM _ r 2 _ _ z' G
theorem C6.Vk(h:C6 w r x y z)(z':atY):C6 (w.setCell (IM r 2) z') r x y z':=aM _ r 2 _ _ z' h
theorem C6.c(h:C6 w r x y z):w.cell? (IM r 0)=some x/\w.cell? (IM r 1)=some y/\w.cell? (IM r 2)=some z/\∀k,w.frozen? (IM r k)=false:=by
 refine⟨?_,?_,?_,λk=>fy w r k _ _ h⟩<;>rw[UV w r _ _ _ _ h]<;>rfl
theorem aG.put{cap:Nat}(h:aG w base a n cap b m dap V X)(hb:C6 w r x y z)(x' y' z':atY):aG (Gx w r x' y' z') base a n cap b m dap V X:=by
 have G:=aM w r 0 _ _ x' hb;have H:=aM _ r 1 _ _ y' G;exact⟨bg (bg (bg h.v hb FS) G FS) H FS,bg (bg (bg h.x hb FS) G FS) H FS⟩
theorem aG.set2{cap:Nat}(h:aG w base a n cap b m dap V X)(hb:C6 w r x y z)(z':atY):aG (w.setCell (IM r 2) z') base a n cap b m dap V X :=
 ⟨bg h.v hb FS,bg h.x hb FS⟩
theorem D4.Gx(h:D4 w w')(hr:w.heap.size<=r)(x y z:atY):D4 w (Gx w' r x y z):=((h.store 0 hr x).store 1 hr y).store 2 hr z
section
variable{w W:J}{p:Int}{a b:o6}{n cap m dap:Nat}{V:o7}{X:o3}
structure b9(w W:J)(p:Int)(a:o6)(n cap:Nat)(b:o6)(m dap:Nat):Prop where
 x:D4 w W
 s:C6 W w.heap.size (U p) (FB a n cap) (FB b m dap)
 r:C6 W (w.heap.size+1) (U 0) d9 (d9)
theorem WV(w:J)(p:Int)(a:o6)(n cap:Nat)(b:o6)(m dap:Nat):b9 w ((w.alloc (SH #[U p,FB a n cap,FB b m dap] 34)).alloc (SH #[U 0,d9,d9] 34)) p a n cap b m dap :=
 ⟨ZL.trans ZL,(wZ j9).trans (LE rfl),LE j9⟩
theorem b9.ext{w':J}(h:b9 w W p a n cap b m dap)(hx:D4 W w'):b9 w w' p a n cap b m dap:=⟨h.x.trans hx,hx.blk h.s,hx.blk h.r⟩
theorem b9.fin{w':J}(h:b9 w w' p a n cap b m dap){base:Nat}{a' b':o6}{n' cap' m' GH:Nat}{V':o7}{X':o3}(ho:aG w' base a' n' cap' b' m' GH V' X')(p':Int):
 (Gx w' (w+1) (U p') (FB a' n' cap') (FB b' m' GH)).cell? (IM (w+1) 0)=some (U p')/\(Gx w' (w+1) (U p') (FB a' n' cap') (FB b' m' GH)).cell? (IM (w+1) 1)=some (FB a' n' cap')/\(Gx w' (w+1) (U p') (FB a' n' cap') (FB b' m' GH)).cell? (IM (w+1) 2)=some (FB b' m' GH) /\
   aG (Gx w' (w+1) (U p') (FB a' n' cap') (FB b' m' GH)) base a' n' cap' b' m' GH V' X'/\D4 w (Gx w' (w+1) (U p') (FB a' n' cap') (FB b' m' GH)) :=
 let⟨c0,c1,c2,_⟩:=(h.r.put (U p') (FB a' n' cap') (FB b' m' GH)).c
 ⟨c0,c1,c2,ho.put h.r _ _ _,h.x.Gx (bq _) _ _ _⟩
theorem b9.FP{w':J}(h:b9 w w' p a n cap b m dap){base:Nat}{a' b':o6}{n' cap' m' GH:Nat}{V':o7}{X':o3}(ho:aG w' base a' n' cap' b' m' GH V' X')(p':Int):
 (Gx w' (w+1) (U p') (FB a' n' cap') (FB b' m' GH)).cell? (IM (w+1) 0)=some (U p')/\(Gx w' (w+1) (U p') (FB a' n' cap') (FB b' m' GH)).cell? (IM (w+1) 1)=some (FB a' n' cap')/\(Gx w' (w+1) (U p') (FB a' n' cap') (FB b' m' GH)).cell? (IM (w+1) 2)=some (FB b' m' GH) /\
   e9 (aG (Gx w' (w+1) (U p') (FB a' n' cap') (FB b' m' GH)) base a' n' cap' b' m' GH V' X')/\e9 (D4 w (Gx w' (w+1) (U p') (FB a' n' cap') (FB b' m' GH))):=h.fin ho p'
abbrev B3(w:J)(r:Nat)(x y z:atY):Prop:=w.cell? ⟨r,0,none⟩=some x/\w.cell? ⟨r,1,none⟩=some y/\w.cell? ⟨r,2,none⟩=some z/\∀k,w.frozen? ⟨r,k,none⟩=false
theorem fY(p:Int){base:Nat}{V:o7}{X:o3}(h:aG w base a n cap b m dap V X):∃W,W=(w.alloc (SH #[U p,FB a n cap,FB b m dap] 34)).alloc (SH #[U 0,d9,d9] 34)/\e9 (b9 w W p a n cap b m dap)/\e9 (aG W base a n cap b m dap V X) /\
 B3 W w (U p) (FB a n cap) (FB b m dap)/\B3 W (w+1) (U 0) d9 (d9) :=
 let T:=WV w p a n cap b m dap
 ⟨_,rfl,T,h.ext T.x,T.s.c,T.r.c⟩
theorem ml(p:Int){V:o7}{X:o3}(H:d6 w a n cap V)(G:i8 w b m dap X):∃W,W=(w.alloc (SH #[U p,FB a n cap,FB b m dap] 34)).alloc (SH #[U 0,d9,d9] 34)/\e9 (b9 w W p a n cap b m dap)/\e9 (d6 W a n cap V)/\e9 (i8 W b m dap X)/\e9 (w.heap.size<=W.heap.size) /\
 B3 W w (U p) (FB a n cap) (FB b m dap)/\B3 W (w+1) (U 0) d9 (d9) :=
 let T:=WV w p a n cap b m dap
 ⟨_,rfl,T,H.ext T.x,G.ext T.x,T.x.size,T.s.c,T.r.c⟩
theorem WU{w':J}{base:Nat}{V:o7}{X:o3}(T:e9 (b9 w W p a n cap b m dap)){a' b':o6}{n' cap' m' GH:Nat}(h:e9 (aG W base a' n' cap' b' m' GH V X))(hx:D4 W w'):e9 (b9 w w' p a n cap b m dap)/\e9 (aG w' base a' n' cap' b' m' GH V X) /\
 B3 w' w (U p) (FB a n cap) (FB b m dap)/\B3 w' (w+1) (U 0) d9 (d9) :=
 let T:=T.ext hx
 ⟨T,h.out.ext hx,T.s.c,T.r.c⟩
theorem lI{w w':J}{b:Nat}(h:w'.heap[b]?=w.heap[b]?)(o:Nat):w'.cell? (IM b o)=w.cell? (IM b o):=by unfold World.cell?;simp only[h]
theorem iW{w w':J}(h:b9 w w' p a n cap b m dap){x' y' z':atY}(hx:D4 w (Gx w' (w+1) x' y' z')):
 (Gx w' (w+1) x' y' z').cell? (IM w 0)=some (U p)/\(Gx w' (w+1) x' y' z').cell? (IM w 1)=some (FB a n cap)/\(Gx w' (w+1) x' y' z').cell? (IM w 2)=some (FB b m dap)/\D4 w (Gx w' (w+1) x' y' z'):=by
 obtain⟨c0,c1,c2,_⟩:=h.s.c;have k:∀o,(Gx w' (w+1) x' y' z').cell? (IM w o)=w'.cell? (IM w o):=λo=>lI (by
  rw[If _ _ _ _ j9,If _ _ _ _ j9,If _ _ _ _ j9]) o
 exact⟨(k 0).trans c0,(k 1).trans c1,(k 2).trans c2,hx⟩
theorem At(hV:d6 w a n cap V)(hX:i8 w b m dap X)(hn:n<=1048576)(hm:m<=1048576):
 Calls prog 24 #[sess p a n cap b m dap] w λe w'=>(∃a' n' cap' b' m' GH,e=atn (sess p a' n' cap' b' m' GH)/\aG w' w a' n' cap' b' m' GH V X)/\D4 w w':=by
 have T:=WV w p a n cap b m dap;have⟨W,hW⟩:=j7 ((w.alloc (SH #[U p,FB a n cap,FB b m dap] 34)).alloc (SH #[U 0,d9,d9] 34));rw[<-hW]at T;refine Fn T (hV.ext T.x) (hX.ext T.x) λH HV HX=>?_;obtain⟨c0,c1,c2,_⟩:=T.s.c;go_in
 go_upto_region 1 with rfl;rw[<-hW];clear hW;have G:=D4.drew W;have HK:=I (λ(w':J) (hx:D4 W w')=>(⟨hx.o9 c0,hx.o9 c1,hx.o9 c2,H.x.trans hx⟩:w'.cell? (IM w 0)=some (U p)/\w'.cell? (IM w 1)=some (FB a n cap)/\w'.cell? (IM w 2)=some (FB b m dap)/\D4 w w'));refine kp HK G λZ=>?_
 refine ks ⟨?_⟩;refine tk 3 ?_;refine tk 4 ?_;refine tk 5 ?_;refine tk 8 ?_;refine tk 9 ?_;refine rd 6 λK hK=>?_;go_simp
 (go_at_call 54;refine yf (kh (HV.ext G) O) λw3 v3 Gw C0=>?_;obtain⟨a3,n3,c3,rfl,NB⟩:=Gw.var;have C8:=I (Gw.mono (H.x.trans G).size);have G:=G.trans C0)
 go_wp2_with rfl;refine KO (HK _ G) λZ=>?_;refine tk 7 ?_;refine rd 10 λK hK=>?_;go_simp
 (go_at_call 55;refine yf (mS (HX.ext G) O) λw4 v4 Jd E4=>?_;obtain⟨a4,n4,c4,rfl,HN4⟩:=Jd.var;have HO:e9 (aG w4 w a3 n3 c3 a4 n4 c4 V X):=I ⟨C8.ext E4,Jd.mono (H.x.trans G).size⟩;have G:=G.trans E4)
 go_wp2_with rfl;refine KO (HK _ G) λZ=>?_;refine tk 11 ?_;have T2:=H.ext G;have⟨r0,r1,r2,rf⟩:=T2.r.c;have⟨q0,q1,q2,ho,hx⟩:=T2.fin HO.o p;have hS:=iW T2 hx (x':=U p) (y':=FB a3 n3 c3) (z':=FB a4 n4 c4);refine rd 12 λK hK=>?_;go_simp;refine KO hS λZ=>?_;refine ST k8 ?_ _;go_wp2;refine GE (v:=sess p a3 n3 c3 a4 n4 c4) (by simp[results,results24,go_sem,r0,r1,r2,rf]) rfl ⟨⟨_,_,_,_,_,_,rfl,ho⟩,hx⟩
theorem io(hV:d6 w a n cap V)(hX:i8 w b m dap X)(hn:n<=1048576)(hm:m<=1048576):
 Calls prog 40 #[sess p a n cap b m dap] w λe w'=>(∃a' n' cap' b' m' GH,e=atn (sess p a' n' cap' b' m' GH)/\aG w' w a' n' cap' b' m' GH V X)/\D4 w w':=by
 have T:=WV w p a n cap b m dap;have⟨W,hW⟩:=j7 ((w.alloc (SH #[U p,FB a n cap,FB b m dap] 34)).alloc (SH #[U 0,d9,d9] 34));rw[<-hW]at T;refine Fn T (hV.ext T.x) (hX.ext T.x) λH HV HX=>?_;obtain⟨c0,c1,c2,_⟩:=T.s.c;go_in
 go_upto_region 1 with rfl;rw[<-hW];clear hW;have G:=D4.drew W;have HK:=I (λ(w':J) (hx:D4 W w')=>(⟨hx.o9 c0,hx.o9 c1,hx.o9 c2,H.x.trans hx⟩:w'.cell? (IM w 0)=some (U p)/\w'.cell? (IM w 1)=some (FB a n cap)/\w'.cell? (IM w 2)=some (FB b m dap)/\D4 w w'));refine kp HK G λZ=>?_
 refine tk 0 ?_;refine tk 1 ?_;refine tk 3 ?_;refine tk 4 ?_;refine rd 2 λK hK=>?_;go_simp
 (go_at_call 107;refine PP (Xn (p:=p) (HV.ext G) hn) λw3 v3 Gw C0=>?_;obtain⟨a3,n3,c3,rfl,NB⟩:=Gw.var;have C8:=I (Gw.mono (H.x.trans G).size);have G:=G.trans C0)
 go_wp2_with rfl;refine KO (HK _ G) λZ=>?_;refine rd 5 λK hK=>?_;go_simp
 (go_at_call 105;refine PP (js (HX.ext G) O) λw4 v4 Jd E4=>?_;obtain⟨a4,n4,c4,rfl,HN4⟩:=Jd.var;have HO:e9 (aG w4 w a3 n3 c3 a4 n4 c4 V X):=I ⟨C8.ext E4,Jd.mono (H.x.trans G).size⟩;have G:=G.trans E4)
 go_wp2_with rfl;refine KO (HK _ G) λZ=>?_;refine tk 6 ?_;have T2:=H.ext G;have⟨r0,r1,r2,rf⟩:=T2.r.c;have⟨q0,q1,q2,ho,hx⟩:=T2.fin HO.o p;have hS:=iW T2 hx (x':=U p) (y':=FB a3 n3 c3) (z':=FB a4 n4 c4);refine rd 7 λK hK=>?_;go_simp;refine KO hS λZ=>?_;refine ST k8 ?_ _;go_wp2;refine GE (v:=sess p a3 n3 c3 a4 n4 c4) (by simp[results,results40,go_sem,r0,r1,r2,rf]) rfl ⟨⟨_,_,_,_,_,_,rfl,ho⟩,hx⟩
end
theorem qB(h:Lp l<1∨m<Lp l):aH l m=-1:=by unfold aH;rw[f8 O]
theorem Cx(h:1<Lp l)(H:l[0]?=some 48):aH l m=-1:=by
 unfold aH;rw[f8 (λg=>by rcases g.2.1 with G|G;omega;exact G H)]
theorem EB{k:Nat}{c:UInt8}(G:l[k]?=some c)(hc:dj c=false):aH l m=-1:=by
 unfold aH;rw[f8 (λg=>by
  have:=fp.1 g.2.2 c (MV G);rw[hc]at this;cases this)]
theorem EA(Q:1<=Lp l)(K:Lp l<=m)(H:Lp l<=1∨l[0]?≠some 48)(G:(l.take (Lp l)).all dj=true):aH l m=(FY (l.take (Lp l)):Int):=by
 rw[Wt]at *;unfold aH;rw[i7 ⟨⟨Q,K⟩,H,G⟩]
def Ze(h:σ:=by
 have HR:=I (qB (l:=l) (m:=m) O);clear hs;go_in
 go_wp2;go_ret;exact⟨au HR.symm,rfl⟩
 ):σ:=h
def Qf(h:σ:=by
 go_wp2_with rfl;refine dk ?_;exact⟨k+1,I (l8 HK.o),by rw[HVN.o];go_num,by go_num,HAN,I rfl⟩
 ):σ:=h
def Qs(h:σ:=by
 clear hne;go_wp2;go_meet;exact⟨by rw[RK O],rfl⟩
 ):σ:=h
theorem lh(l:List UInt8)(m:Nat)(hm:m<=12):
 Calls prog 151 #[atr (bs l),U m] w λe w'=>e=atn (U (aH l m))/\w'=w:=by
 have⟨t,ht⟩:=j7 (bs l);have hs:t.size=Lp l:=by rw[ht,aX]
 have HS:=I hs;have HAT:=I (show∀(k:Nat) (h:k<t.size),t[k]=l[k]?.getD 0 by subst ht;intro k h;exact sf h);rw[<-ht];clear ht;by_cases h1:t.size<1
 ·exact Ze
 by_cases h2:m<t.size
 ·exact Ze
 have h01:1<=Lp l:=O;have⟨c0,Fo⟩:=j7 (l[0]?.getD 0);have e0:l[0]?=some c0:=by rw[Fo,In O];rfl
 have HQ:∀h:0<t.size,t[0]=c0:=λh=>by rw[HAT.o 0 h,Fo]
 by_cases Z:1<t.size/\c0=48
 ·obtain⟨Z,h4⟩:=Z;have HR:=I (Cx (l:=l) (m:=m) O (by rw[e0,h4]));rw[h4]at HQ;clear hs h01 Fo e0 h4;go_in
  go_wp2;go_ret;exact⟨au HR.symm,rfl⟩
 have HC:=I (show Lp l<=1∨l[0]?≠some 48 by
  rcases xf 1 t.size with H|H
  ·right;intro e;rw[e0,Pi]at e;exact Z ⟨H,e⟩
  left;omega)
 have hne:1<t.size->((c0.toNat:Int) == 48)=false:=λH=>by
  have:c0≠48:=λe=>Z ⟨H,e⟩
  have h6:c0.toNat≠48:=λe=>this (Zi.1 (by rw[e];rfl))
  simp;omega
 clear Z;have HB:=I (show t.size<=12 by omega);clear Fo e0 hs h01;go_in
 go_upto_region 1 with rfl
 go_cut [25] (λv wx=>v=ato false/\e9 (w=wx))
 case first =>
  by_cases H:1<t.size
  ·have hnf:=hne H;exact Qs
  exact Qs
 obtain⟨rfl,hw⟩:=hcut;obtain rfl:=hw.out;clear hw hne HQ;go_wp2
 go_loopg [5,6] t.size (λgk nn ii wr=>∃(k:Nat),e9 (gk+k=t.size)/\nn=U (FY (l.take k):Int)/\ii=U k/\e9 ((l.take k).all dj=true)/\e9 (w=wr))
 ·exact⟨0,I rfl,rfl,rfl,I rfl,I rfl⟩
 obtain⟨k,HK,rfl,rfl,HA,HW⟩:=hrel;obtain rfl:=HW.o;have⟨v,HV⟩:=Ok (FY (l.take k));rw[<-HV.o];have J9:=I (show v<1000000000000 by rw[HV.o];exact ww (m:=t.size) HA.o (l8 HK.o) HB);by_cases hk:k<t.size
 ·have⟨c,hc⟩:=j7 (l[k]?.getD 0);have hkc:∀h:k<t.size,t[k]=c:=λh=>by rw[HAT.o k h,hc]
  have e1:l[k]?=some c:=by rw[hc,In (by rw[<-HS.o];exact hk)];rfl
  have HE:=I e1;clear hc e1;by_cases K:dj c=true
  ·have H7:=I (fX HE);unfold dj at K;rw[cq]at K;obtain⟨d,G⟩:∃d,c.toNat=d+48:=⟨c.toNat-48,by omega⟩;have hd9:d<=9:=by omega
   have Ha:=J9.o;have PF:IntKind.u8.wrap (((d+48:Nat):Int)-48)=(d:Int):=by rw[UU];omega
   have hci:(c.toNat:Int)=((d+48:Nat):Int):=by rw[G]
   have HVN:=I (show FY (l.take (k+1))=10*v+d by rw[H7.o,jX,<-HV.o,G];omega);have HAN:=I (show(l.take (k+1)).all dj=true by rw[H7.o,p7,HA.o];simp[dj,G,hd9]);exact Qf
  have HR:=I (EB (m:=m) HE.o (by simpa using K));unfold dj at K;rw[cq]at K;rcases xf c.toNat 48 with h6|h6
  ·go_wp2;go_ret;exact⟨au HR.symm,rfl⟩
  have h7:57<c.toNat:=O;go_wp2;go_ret;exact⟨au HR.symm,rfl⟩
 have Rb:k=t.size:=l8 HK.o;have HR:=I (show aH l m=(v:Int)by
  have e:Lp l=k:=by rw[Rb,HS.o]
  rw[HV.o,<-e];exact EA ZV ZV HC.o (by rw[e];exact HA))
 go_wp2;go_ret;exact⟨au HR.symm,rfl⟩
theorem CT(l:List UInt8):Lib.trimPrefix l [45]=if l[0]?=some 45 then l.drop 1 else l:=by
 cases l with
 | nil=>rfl
 | cons c r =>
   by_cases hc:c=45
   ·subst hc;rfl
   rw[f8 (by simpa using hc)];simp[Lib.trimPrefix,Lib.hasPrefix,hc,vA hc]
def s'(h:σ:=by
 go_wp2_with rfl;refine HD.mono ?_;rintro e w1 ⟨rfl,rfl⟩;go_wp2;go_ret2;exact⟨rfl,rfl⟩
 ):σ:=h
theorem oh(l:List UInt8):Calls prog 77 #[atr (bs l)] w λe w'=>e=atn (.tuple #[U (if 0<=aH l 6 then aH l 6 else 0),ato (decide (0<=aH l 6))])/\w'=w:=by
 have HD:=I (lh (w:=w) l 6 O);have⟨v,G⟩:=j7 (aH l 6);rw[<-G]at HD;rw[<-G];by_cases H:0<=v
 ·rw[i7 H,bl H];have K:max v 0=v:=by omega
  clear G;go_in
  exact s'
 rw[f8 H,RK H];have K:max v 0=0:=O;clear G;go_in
 go_wp2_with rfl;refine HD.mono ?_;rintro e w1 ⟨rfl,rfl⟩;go_wp2;go_ret2;refine⟨?_,rfl⟩;show atn (.tuple #[U 0,ato (decide (0<=v))])=_;rw[RK O]
theorem XN(l:List UInt8)(hm:m<=12):-1<=aH l m/\aH l m<1000000000000:=by
 unfold aH;split
 ·next h =>
  have h2:=uN l h.2.2;have h3:10^Lp l<=10^12:=cC FS O;omega
 omega
def Qv(h:σ:=by
 rw[qq0 h1]at HR;rw[HR.o];go_in
 go_wp2_with rfl;refine GJ.mono ?_;rintro e w1 ⟨rfl,rfl⟩;go_wp2_with rfl;refine HD.mono ?_;rintro e w1 ⟨rfl,rfl⟩;go_wp2_with rfl
 all_goals
  go_ret2
  first|exact⟨rfl,rfl⟩|exact⟨by rw[show v=0 by omega];rfl,rfl⟩
 ):σ:=h
theorem nd(l:List UInt8):Calls prog 81 #[atr (bs l)] w λe w'=>e=atn (.tuple #[U ((dm l).getD 0),ato (dm l).isSome])/\w'=w:=by
 have K:=Any.strings_TrimPrefix Yy (bs l) ⟨#[45]⟩ w;have e:Lib.trimPrefix (bs l).data.toList (⟨#[45]⟩:ByteArray).data.toList=if l[0]?=some 45 then l.drop 1 else l:=CT l
 rw[e]at K;clear e;by_cases G:l[0]?=some 45
 ·rw[i7 G]at K;have HD:=I (lh (w:=w) (l.drop 1) 12 O);have HR:=I (show dm l=if 1<=aH (l.drop 1) 12 then some (-(aH (l.drop 1) 12)) else none by unfold dm;rw[i7 G]);have⟨v,Z⟩:=j7 (aH (l.drop 1) 12);rw[<-Z]at HD HR;have Q:((bs (l.drop 1)).toList == (bs l).toList)=false:=by
   rw[dd,dd,VK];intro e;have:=IR List.length e;rw[C3]at this;have h2:=(Ls.1 G).1;omega
  have hb:=XN (l.drop 1) (m:=12) O;rw[<-Z]at hb;have HW:=I (show wrap64 (-v)=-v by unfold wrap64;omega);have⟨t1,Qn⟩:=j7 (bs (l.drop 1));have⟨t,H⟩:=j7 (bs l);have GJ:=I (show Calls prog 152 #[atr t,atr ⟨#[45]⟩] w (λe w'=>e=atn (atr t1)/\w'=w)by rw[H,Qn];exact K);clear K;rw[<-Qn]at HD Q;rw[<-H]at Q;rw[<-H];clear H Qn Z G hb;by_cases h1:1<=v
  ·rw[i7 h1]at HR;rw[HR.o];go_in
   go_wp2_with rfl;refine GJ.mono ?_;rintro e w1 ⟨rfl,rfl⟩;go_wp2_with rfl;refine HD.mono ?_;rintro e w1 ⟨rfl,rfl⟩;go_wp2;go_ret2;refine⟨?_,rfl⟩;show atn (.tuple #[U (wrap64 (-v)),ato true])=_;rw[HW.o];rfl
  have qq0:=@f8;exact Qv
 rw[f8 G]at K;have HD:=I (lh (w:=w) l 12 O);have HR:=I (show dm l=if 0<=aH l 12 then some (aH l 12) else none by unfold dm;rw[f8 G]);generalize aH l 12=v at HD HR;have⟨t,H⟩:=j7 (bs l);have GJ:=I (show Calls prog 152 #[atr t,atr ⟨#[45]⟩] w (λe w'=>e=atn (atr t)/\w'=w)by rw[H];exact K);clear K;rw[<-H]at HD;rw[<-H];clear H G;by_cases h1:0<=v
 ·have qq0:=@i7;exact Qv
 rw[f8 h1]at HR;rw[HR.o];go_in
 go_wp2_with rfl;refine GJ.mono ?_;rintro e w1 ⟨rfl,rfl⟩;exact s'
def TC(h:σ:=by
 rintro e w1 ⟨rfl,hx⟩;have HX:=I hx;clear hx;go_wp2;go_ret2;exact⟨rfl,HX⟩
 ):σ:=h
def T8(h:σ:=by
 have HR:=I (show R=none by rw[K8.o,f8 (by rw[<-HSD.o];omega)]);obtain rfl:=HR.o;go_wp2;go_ret2;exact⟨rfl,So⟩
 ):σ:=h
theorem yX(l:List UInt8)(m:Nat)(hm:m<=12):
 f9 89 #[atr (bs l),U m] w (.tuple #[U ((ib l m).getD 0),ato (ib l m).isSome]):=by
 obtain⟨b,hb⟩:∃b:Bool,b=decide (l[0]?=some 45):=⟨_,rfl⟩;have⟨G,K⟩:=j7 (if l[0]?=some 45 then l.drop 1 else l);have K8:=I (show ib l m=if(1<=Lp G/\Lp G<=m)/\G.all dj=true/\Lib.itoa (if b=true then -(FY G:Int) else(FY G:Int))=l then some (if b=true then -(FY G:Int) else(FY G:Int)) else none by
  by_cases h:l[0]?=some 45
  ·rw[hb,K];unfold ib;simp[h]
  rw[hb,K];unfold ib;simp[h])
 have N4:=I (show G=if b=true then l.drop 1 else l by rw[K,hb];simp);have LH:=I hb;have⟨R,hR⟩:=j7 (ib l m);rw[<-hR]at K8;rw[<-hR];clear hR hb K;have⟨t,ht⟩:=j7 (bs l);have⟨td,Td⟩:=j7 (bs G);refine y5 ht Td (show t.size=Lp l by rw[ht,aX]) (show td.size=Lp G by rw[Td,aX]) (show∀(k:Nat) (h:k<t.size),t[k]=l[k]?.getD 0 by subst ht;intro k h;exact sf h) (show∀(k:Nat) (h:k<td.size),td[k]=G[k]?.getD 0 by subst Td;intro k h;exact sf h) λHT HTD HS HSD HAT HAD=>?_;rw[<-ht];clear ht Td;unfold f9;go_in
 go_upto_region 1 with rfl
 go_cut [6] (λv wx=>v=ato b/\e9 (w=wx))
 case first =>
  by_cases h0:0<t.size
  ·have⟨c0,Fo⟩:=j7 (l[0]?.getD 0);have hix:∀h:0<t.size,t[0]=c0:=λh=>by rw[HAT.o 0 h,Fo]
   have GL:=I (show((c0.toNat:Int) == 45)=b by
    rw[LH.o,Fo,In (by rw[<-HS.o];exact h0)];simp only[NE,Pi];rw[uu];simp only[Zf,cq];constructor
    ·intro e;exact Zi.1 (by rw[show(45:UInt8).toNat=45 from rfl];omega)
    intro e;rw[e];rfl)
   clear Fo;go_wp2;go_meet;exact⟨by rw[GL.o],rfl⟩
  have GL:=I (show b=false by
   rw[LH.o,mq ZV];rfl)
  go_wp2;go_meet;exact⟨by rw[GL.o],rfl⟩
 obtain⟨rfl,hw⟩:=hcut;obtain rfl:=hw.out;clear hw;go_upto_if 19 with rfl
 go_cut [7] (λv wx=>v=atr td/\e9 (w=wx))
 case first =>
  cases b with
  | true =>
    have HE:=I (show t.extract 1 t.size=td by rw[HT.o,LV,HTD.o,N4.o];rfl);have h1:1<=t.size:=by
     have:=LH.o;rw[eq_comm,cq]at this;have:=(Ls.1 this).1;rw[HS.o];omega
    go_wp2;go_meet;exact⟨by rw[HE.o],rfl⟩
  | false =>
    have HE:=I (show t=td by rw[HT.o,HTD.o,N4.o];rfl);go_wp2;go_meet;exact⟨by rw[HE.o],rfl⟩
 obtain⟨rfl,hw⟩:=hcut;obtain rfl:=hw.out;clear hw;by_cases h1:td.size<1
 ·exact T8
 by_cases h2:m<td.size
 ·exact T8
 have HB:=I (show td.size<=12 by omega);go_wp2
 go_loopg [8,9] td.size (λgk nn ii wr=>∃(k:Nat),e9 (gk+k=td.size)/\nn=U (FY (G.take k):Int)/\ii=U k/\e9 ((G.take k).all dj=true)/\e9 (w=wr))
 ·exact⟨0,I rfl,rfl,rfl,I rfl,I rfl⟩
 obtain⟨k,HK,rfl,rfl,HA,HW⟩:=hrel;obtain rfl:=HW.o;have⟨v,HV⟩:=Ok (FY (G.take k));rw[<-HV.o];have J9:=I (show v<1000000000000 by rw[HV.o];exact ww (m:=td.size) HA.o (l8 HK.o) HB);by_cases hk:k<td.size
 ·have⟨c,hc⟩:=j7 (G[k]?.getD 0);have hkc:∀h:k<td.size,td[k]=c:=λh=>by rw[HAD.o k h,hc]
  have e1:G[k]?=some c:=by rw[hc,In (by rw[<-HSD.o];exact hk)];rfl
  have HE:=I e1;clear hc e1;by_cases hd:dj c=true
  ·have H7:=I (fX HE);unfold dj at hd;rw[cq]at hd;obtain⟨d,hdd⟩:∃d,c.toNat=d+48:=⟨c.toNat-48,by omega⟩;have hd9:d<=9:=by omega
   have Ha:=J9.o;have PF:IntKind.u8.wrap (((d+48:Nat):Int)-48)=(d:Int):=by rw[UU];omega
   have hci:(c.toNat:Int)=((d+48:Nat):Int):=by rw[hdd]
   have HVN:=I (show FY (G.take (k+1))=10*v+d by rw[H7.o,jX,<-HV.o,hdd];omega);have HAN:=I (show(G.take (k+1)).all dj=true by rw[H7.o,p7,HA.o];simp[dj,hdd,hd9]);exact Qf
  have HR:=I (show R=none by
   rw[K8.o,f8 (λg=>by
    have:=fp.1 g.2.1 c (MV HE);exact hd this)])
  obtain rfl:=HR.o;unfold dj at hd;rw[cq]at hd;rcases xf c.toNat 48 with h6|h6
  ·go_wp2;go_ret2;exact⟨rfl,So⟩
  have h7:57<c.toNat:=O;go_wp2;go_ret2;exact⟨rfl,So⟩
 have Rb:k=td.size:=l8 HK.o;have e:Lp G=k:=by rw[Rb,HSD.o]
 obtain⟨Z,hZ⟩:∃Z:Int,Z=if b=true then -(FY G:Int) else(FY G:Int):=⟨_,rfl⟩
 have hvd:v=FY G:=by rw[HV.o,<-e,Wt]
 have had:G.all dj=true:=by have:=HA.o;rwa [<-e,Wt]at this
 have HR:=I (show R=if Lib.itoa Z=l then some Z else none by
  rw[K8.o,<-hZ];by_cases H:Lib.itoa Z=l
  ·rw[i7 H,i7 ⟨⟨by omega,by omega⟩,had,H⟩]
  rw[f8 H,f8 λg=>H g.2.2])
 have HZ:=I (show Z=if b=true then -(v:Int) else(v:Int)by rw[hZ,hvd]);have Ha:=J9.o;clear hZ hvd had e Rb;go_upto_if 55 with rfl
 go_cut [8] (λv wx=>v=U Z/\e9 (w=wx))
 case first =>
  cases b with
  | true =>
    have HZ2:e9 (Z=-(v:Int)):=HZ;go_wp2;go_meet;exact⟨by rw[HZ2.o],rfl⟩
  | false =>
    have HZ2:e9 (Z=(v:Int)):=HZ;go_wp2;go_meet;exact⟨by rw[HZ2.o],rfl⟩
 obtain⟨rfl,hw⟩:=hcut;obtain rfl:=hw.out;clear hw;have HF:=I (iX (w:=w) Z (by have:=HZ.o;split at this<;>omega) (by have:=HZ.o;split at this<;>omega));clear Ha;by_cases H:Lib.itoa Z=l
 ·have Ky:=I (show R=some Z by rw[HR.o,i7 H]);obtain rfl:=Ky.o;have hne:((bs (Lib.itoa Z)).toList == t.toList)=true:=by rw[HT.o,dd,dd,H];simp
  clear H;generalize bs (Lib.itoa Z)=tz at hne HF;go_wp2_with rfl;refine HF.mono ?_;exact TC
 have Ky:=I (show R=none by rw[HR.o,f8 H]);obtain rfl:=Ky.o;have hne:((bs (Lib.itoa Z)).toList == t.toList)=false:=by rw[HT.o,dd,dd];simpa using H
 clear H;generalize bs (Lib.itoa Z)=tz at hne HF;go_wp2_with rfl;refine HF.mono ?_;exact TC
theorem nO(l:List UInt8):f9 95 #[atr (bs l)] w (.tuple #[U ((dm l).getD 0),ato (dm l).isSome]):=by
 have H:=I (yX (w:=w) l 12 O);rw[EC]at H;have⟨a,G⟩:=j7 ((dm l).getD 0);have⟨b,hb⟩:=j7 ((dm l).isSome);rw[<-G,<-hb]at H;rw[<-G,<-hb];clear G hb;unfold f9;go_in
 go_wp2_with rfl;refine H.mono ?_;exact TC
theorem wP(l:List UInt8):f9 33 #[atr (bs l)] w (.tuple #[U (if 0<=aH l 6 then aH l 6 else 0),ato (decide (0<=aH l 6))]):=by
 have G:=I (yX (w:=w) l 6 O);have hr:=XL l;have Q:=I (show(if 0<=aH l 6 then aH l 6 else 0)=(((ib l 6).bind (λn=>if n<0 then none else some n)).getD 0)/\decide (0<=aH l 6)=((ib l 6).bind (λn=>if n<0 then none else some n)).isSome by
  rw[hr];by_cases h:0<=aH l 6
  ·simp[h]
  simp[h])
 rw[Q.1,Q.2];cases H:ib l 6 with
 | none =>
   rw[H]at G;unfold f9;go_in
   go_wp2_with rfl;refine G.mono ?_;exact TC
 | some n =>
   rw[H]at G;by_cases K:n<0
   ·rw[show(Option.bind (some n) λn=>if n<0 then none else some n)=none from i7 K];unfold f9;go_in
    go_wp2_with rfl;refine G.mono ?_;exact TC
   rw[show(Option.bind (some n) λn=>if n<0 then none else some n)=some n from f8 K];unfold f9;go_in
   go_wp2_with rfl;refine G.mono ?_;exact TC
theorem ai.other{p q:Int}(h:ai w W g p q){a:Addr}(G:g≠a.block)(hb:w.heap.size<=a.block)(v:atY):ai w (W.setCell a v) g p q :=
 ⟨h.ext.setCell hb v,h.ge,(If W a g v G).trans h.cell⟩
theorem ai.grown{H G:J}{p q:Int}(h:ai w W g p q){K:atY}{l:o7}(ho:y9 W base K l)(hx:D4 W H)(hb:w.heap.size<=base)(hg:H.grownBy G K.ownBlock):ai w G g p q :=
 ⟨aj (h.ext.trans hx) hg (λj Q=>bR hb (ho.lt j Q).1),h.ge,vi hg (hx.blk h.cell) (aq (ho.ext hx) (hx.blk h.cell) FS)⟩
theorem y9.ML{p q:Int}{v:atY}{l:o7}(h:y9 W base v l)(hb:ai w W g p q)(p' q':Int):y9 ((W.setCell (IM g 0) (U p')).setCell (IM g 1) (U q')) base v l :=
 bg (bg h hb.cell FS) (aM W g 0 _ _ _ hb.cell) FS
theorem BE:Rd prog 139:=cE func139 k8 k8
theorem wC:Rd prog 134:=cE func134 k8 k8
theorem DC(x y:Int)(w:J):f9 139 #[Ge x y] w (ato (decide (0<x))):=by
 unfold f9;go_in
 go_wp2;go_ret;exact⟨ag j9,ZL⟩
theorem YV{p:Int}{cap:Nat}(h:d6 w a n cap V)(hx:i8 w b m Gl X):
 f9 65 #[Id p a n cap,FB b m Gl] w (ato (fK p V X)):=by
 have G:=I (D4.alloc w (SH #[U p,FB a n cap] 31));have HE:=I (iS (p:=p) (h.ext G) (hx.ext G) 0 n ((n:Int)-1) (λ_=>by omega));have HR:=I (Bq p V X);rw[h.hlen]at HR;have⟨A,hA⟩:=j7 (MK p V X 0 n);have⟨Z,hZ⟩:=j7 (fK p V X);rw[<-hA]at HE HR;rw[<-hZ]at HR⊢;have⟨y7,y8⟩:=h.ath;clear hA hZ;unfold f9;go_in
 go_wp2_with rfl;refine PP HE λH v ho hx=>?_;obtain⟨a1,n1,c1,rfl,_⟩:=ho.var;have Q:=I (G.trans hx);have HC:=I (ic (p:=λe=>decide (0<e.1)) (ca:=#[]) ho.rats BE (λx y H _=>DC x y H));cases A with
 | none =>
   go_wp2;go_ret;exact⟨ag (by rw[HR.o];rfl),Q⟩
 | some L =>
   have⟨B,K⟩:=j7 ((L.any λe=>decide (0<e.1)));simp only[NE,<-K]at HC HR;clear K;go_wp2_with rfl;refine i6 HC λw2 hx=>?_;have X1:=I (Q.trans hx);have qq0:=@ag;exact Ur
theorem Wj{l:o3}{x y:Int}(h:l[0]?.getD (0,0)=(x,y)):el l 1=(x,y):=by rw[Db,h]
theorem Yv{cap:Nat}{l:o3}(h:i8 w a n cap l)(h0:0<n):
 f9 142 #[FB a n cap,.func (.func 134) #[] #[]] w (Ge (el l n).1 (el l n).2):=by
 have VD:∀(args:Array atY) (w:J),(callFunc 134 args).run prog w=.ok (.enter 134 args) w:=wC;have⟨hn,hm⟩:=h.ath;have HI:=I h;have⟨b0,o0,x0,y0,e0,MB,d0,d1⟩:=h.at h0;have HV0:=I (Wj MB);subst e0;rw[Nat.zero_mul,wA]at d0 d1;replace d0:=(D4.alloc w (SH #[U 0,U 0] 80)).o9 d0;replace d1:=(D4.alloc w (SH #[U 0,U 0] 80)).o9 d1;have⟨W,hW⟩:=j7 ((w.alloc (SH #[U 0,U 0] 80)).alloc (SH #[U x0,U y0] 80));have Ga:=I (show ai w W (w+1) x0 y0 by rw[hW];exact ai.new' ZL _ _ j9);have K8:=I (show ai w W w 0 0 by rw[hW];exact(ai.new So _ _).grow ZL);unfold f9;go_in
 go_upto_region 4 with rfl;rw[<-hW];clear hW;go_wp2
 go_loopg [6] (n-1) (λgk ii wr=>∃(k:Nat) (G bz:Int),e9 (gk+k=n)/\ii=U k/\e9 (1<=k)/\e9 (el l k=(G,bz))/\e9 (ai w wr (w+1) G bz)/\e9 (ai w wr w 0 0))
 ·exact⟨1,x0,y0,I O,rfl,I O,HV0,Ga,K8⟩
 obtain⟨k,G,bz,HK,rfl,H1,WD,HB,HR⟩:=hrel;have q0:=HB.c0;have q1:=HB.c1;have qf:=HB.free;by_cases hlt:k<n
 ·have⟨b,off,x,y,e,FI,Fo,FQ⟩:=(HI.ext HB.ext).at hlt;obtain⟨rfl,rfl⟩:=er e;clear e;have IG:=SW k n;have MI:=aE k;have⟨c,hc⟩:=j7 (D' (x,y) (G,bz));have Z:=I (show el l (k+1)=if 0<c then(x,y) else(G,bz)by rw[el,FI,WD.o,hc]);have Jz:=I (λw'=>gQ x y G bz w');simp only[<-hc]at Jz;refine Fn Fo FQ (λ(w':J) (H:D4 wr w')=>(⟨H.o9 Fo,H.o9 FQ,H.o9 q0,H.o9 q1,H⟩:w'.cell? (IM b0 (o0+k*2))=some (U x)/\w'.cell? (IM b0 (o0+k*2+1))=some (U y)/\w'.cell? (IM (w+1) 0)=some (U G)/\w'.cell? (IM (w+1) 1)=some (U bz)/\D4 wr w')) λQ5 RU OY=>?_;have C4:=D4.drew wr;clear hc;go_upto_region 7 with rfl;refine kp OY C4 λr9=>?_
  refine ks ⟨?_⟩;refine tk 3 ?_;refine tk 4 ?_;refine tk 5 ?_;refine rd 6 λK hK=>?_;go_simp
  (refine i6 (Jz _) λw5 F'=>?_;have C4:=C4.trans F')
  go_wp2_with rfl;refine KO (OY _ C4) λr9=>?_;refine tk 7 ?_;refine ST k8 ?_ _;have FG:=I (HB.grow C4);have Lv:=I (HR.grow C4);have r0:=C4.o9 Q5.o;have r1:=C4.o9 RU.o;have q0:=FG.c0;have q1:=FG.c1;have qf:=FG.free;by_cases hc:0<c
  ·have Vg:=I (Z.trans (i7 hc));go_wp2_with rfl;refine dk ?_;exact⟨k+1,x,y,I (l8 HK.o),by go_num,I O,Vg,I (FG.put _ _),I ((Lv.other j9 j9 _).other j9 j9 _)⟩
  have Vg:=I (Z.trans (f8 hc));go_wp2_with rfl;refine dk ?_;exact⟨k+1,G,bz,I (l8 HK.o),by go_num,I O,Vg,FG,Lv⟩
 have Tk:k=n:=by have:=HK.o;have:=H1.o;omega
 subst Tk;have rf:=HR.free;have r0:=HR.c0;have r1:=HR.c1;go_wp2;refine GE (v:=.agg #[U G,U bz]) (by simp[results,results142,go_sem,r0,r1,rf]) rfl ⟨by rw[WD.o],(HR.put _ _).ext⟩
def NY(w:J)(base:Nat)(e:Ending)(r:Option ((Int×Int)×o7)):Prop :=
 ∃v,e=atn (.tuple #[Ge (r.getD ((0,0),[])).1.1 (r.getD ((0,0),[])).1.2,v,ato r.isSome])/\y9 w base v (r.getD ((0,0),[])).2
def ao(h:σ:=by
 go_wp2;refine GE (v:=.tuple #[.agg #[U 0,U 0],d9,ato false]) (by simp[results,results68,go_sem,q0,q1,qf]) rfl ⟨⟨_,by rw[HZ.o];rfl,by rw[HZ.o];exact y4⟩,(Ml.put _ _).ext⟩
 ):σ:=h
def Pk(h:σ:=by
 exact⟨0,_,_,_,I O,rfl,rfl,I (y9.Ft _ _ _ rfl (m9 _)),I (FJ.grow ZL),I (HR1'.grow ZL),I ZL⟩
 ):σ:=h
theorem wH{p:Int}{cap:Nat}(h:d6 w a n cap V)(hx:i8 w b m Gl X):
 Calls prog 68 #[Id p a n cap,FB b m Gl] w λe w'=>NY w' w e (fG p V X)/\D4 w w':=by
 have⟨W,K⟩:=j7 ((w.alloc (SH #[U p,FB a n cap] 31)).alloc (SH #[U 0,U 0] 80));have hX:D4 w W:=by rw[K];exact ZL.trans ZL
 have K8:=I (show ai w W (w+1) 0 0 by rw[K];exact ai.new' ZL _ _ j9);have k0:W.cell? (IM w 0)=some (U p):=by rw[K];exact D4.o9 ZL j9
 have k1:W.cell? (IM w 1)=some (FB a n cap):=by rw[K];exact D4.o9 ZL j9
 have HE:=iS (p:=p) (h.ext hX) (hx.ext hX) 1 (n-2) ((n:Int)-2) (qP h.hlen);rw[qM h.hlen]at HE;refine Fn HE (show fG p V X=(match Gt p V X with|none=>none|some l=>if Lp l=0 then none else some (el l (Lp l),eL l (el l (Lp l)) (Lp l)))from rfl) (λ(l:o3) (hl:Gt p V X=some l)=>show Lp l<=n by have:=(dS hl).2;have:=h.hlen;omega) λHE HW Lw=>?_
 have NB:=I (λ(l:o3) (hl:Gt p V X=some l)=>show n<=32 by
  obtain⟨q,_,h1,h5,hlen,_,_⟩:=ap (dY (dS hl).1);have:=bp q h5;have h2:=h.hlen;omega)
 have⟨y7,y8⟩:=h.ath;have⟨A,hA⟩:=j7 (Gt p V X);have⟨R,hR⟩:=j7 (fG p V X);rw[<-hA]at HE HW Lw NB;rw[<-hR]at HW⊢;have Fp:=I (show W.heap.size=w.heap.size+2 by rw[K];simp);clear hA hR;go_in
 go_upto_region 1 with rfl;rw[<-K];clear K;go_wp2_with rfl;refine PP HE λw1 v ho hx=>?_;obtain⟨a1,G,c1,rfl,HN⟩:=ho.var;have HO:=I ho.rats;have Ml:=I (K8.grow hx);have hsz:=hx.size;have⟨Nk,Ng⟩:=HO.ath;have q0:=Ml.c0;have q1:=Ml.c1;have qf:=Ml.free;cases A with
 | none =>
   have HZ:e9 (R=none):=HW;exact ao
 | some l =>
   have IU:=NB.o l rfl;have T5:=Lw.o l rfl;have Ht:Lp l=G:=HN.o;by_cases h0:G=0
   ·have HZ:=I (show R=none by rw[HW.o];simp only;rw[i7 O]);subst h0;exact ao
   have hz:((G:Int) == 0)=false:=t8;obtain⟨⟨x,y⟩,FI⟩:∃r,r=el l G:=⟨_,rfl⟩;have HM:=I (Yv (w:=w1) HO.o O);simp only[NE]at HM;rw[<-FI]at HM;have HZ:=I (show R=some ((x,y),eL l (x,y) G)by rw[HW.o];simp only;rw[f8 O,Ht,<-FI]);have hn33:G<=32:=O;clear FI;go_wp2_with rfl;refine i6 HM λH hx=>?_;refine Op (show ai w (H.alloc (SH #[U x,U y] 80)) H x y from ai.new (Ml.ext.trans hx) x y) ((Ml.grow hx).grow (D4.alloc H (SH #[U x,U y] 80))) ((HO.ext hx).ext (D4.alloc H (SH #[U x,U y] 80))) (show w.heap.size<=H.heap.size by have:=hx.size;have:=Fp.o;omega) λFJ HR1' FM HG=>?_;have⟨w3,Gn⟩:=j7 (H.alloc (SH #[U x,U y] 80));rw[<-Gn]at FJ HR1' FM;go_upto_region 5 with rfl;rw[<-Gn];clear Gn;generalize H.heap.size=g9 at FJ HG⊢;go_wp2
   go_loopg [10,36] G (λgk ll ii wr=>∃(k:Nat) (a4:o6) (Z c4:Nat),e9 (gk+k=G)/\ii=U k/\ll=FB a4 Z c4/\e9 (y9 wr w3 (FB a4 Z c4) (eL l (x,y) k))/\e9 (ai w wr g9 x y)/\e9 (ai w wr (w+1) 0 0)/\e9 (D4 w3 wr))
   ·exact Pk
   obtain⟨k,a4,Z,c4,HK,rfl,rfl,HL,Hc,Kd,Io⟩:=hrel;have q0:=Hc.c0;have q1:=Hc.c1;have hg4:=Hc.lt;by_cases hlt:k<G
   ·have⟨eb,eo,u,v,e,Ob,Fo,FQ⟩:=(FM.ext Io).at hlt;subst e;simp only[NE]at Ob;have Tp:=I Ob;have T5:=nI l (x,y) k;have Vq:=Io.size;cases h1:(u == x)
    all_goals
     cases h2:(v == y)
    case true.true =>
     have Ka:=I (sZ (k:=k) (show l[k]?.getD (0,0)=(x,y)by rw[Tp.o,R1 h1,R1 h2]))
     go_wp2_with (first
      | (at_builtin;refine bK rfl _ _ rfl w3 (FB a4 Z c4) _ rfl ((HL.ext ZL).ext ZL) _ 1 _ [(k:Int)+1] rfl (G3 j9) O t8 ?_;intro v9 w9 ho It r';have N6:=I (Hc.grown HL.o (ZL.trans ZL) FJ.ext.size It);have HR9:=I (Kd.grown HL.o (ZL.trans ZL) FJ.ext.size It);have Kq:=I (aj ((Io.trans ZL).trans ZL) It (λj hj=>(HL.lt j hj).1));obtain⟨a9,n9,c9,rfl,Qe⟩:=ho.var;have Mn:=I ho))
     refine dk ?_;exact⟨k+1,_,_,_,I (l8 HK.o),by go_num,rfl,I (by rw[Ka.o];exact Mn),N6,HR9,Kq⟩
    all_goals
     have Ka:=I (vQ (k:=k) (show l[k]?.getD (0,0)≠(x,y)by rw[Tp.o];intro e;have e1:=(Zh e).1;have e2:=(Zh e).2;rw[e1]at h1;rw[e2]at h2;simp at h1 h2));go_wp2_with rfl;refine dk ?_;exact⟨k+1,_,_,_,I (l8 HK.o),by go_num,rfl,I (by rw[Ka.o];exact HL.ext ZL),I (Hc.grow ZL),I (Kd.grow ZL),I (Io.trans ZL)⟩
   have Tk:k=G:=l8 HK.o;subst Tk;have r0:=Kd.c0;have r1:=Kd.c1;have rf:=Kd.free;go_wp2;refine GE (v:=.tuple #[.agg #[U x,U y],FB a4 Z c4,ato true]) (by simp[results,results68,go_sem,r0,r1,rf]) rfl ⟨⟨_,by rw[HZ.o];rfl,by rw[HZ.o];exact(HL.ML Kd.o x y).mono FJ.ext.size⟩,(Kd.put _ _).ext⟩
end
section
variable{L:List (List UInt8)}{d:Option Int}{t:List UInt8}{w:J}
theorem AQ{x:Int}(h:Lp L=1):M7 L (some x) d t=if FE (x,1)=t then some (x,1) else none:=by unfold M7;rw[i7 h]
theorem AR{x y:Int}(h:Lp L=2):M7 L (some x) (some y) t=if FE (x,y)=t then some (x,y) else none:=by unfold M7;rw[f8 O,i7 h]
theorem AO:M7 L none d t=none:=by
 unfold M7;by_cases H:Lp L=1
 ·rw[i7 H]
 rw[f8 H];by_cases G:Lp L=2
 ·rw[i7 G]
 rw[f8 G]
theorem AP{x:Option Int}(h:Lp L=2):M7 L x none t=none:=by unfold M7;rw[f8 O,i7 h];cases x<;>rfl
theorem rD{x:Option Int}(h:2<Lp L):M7 L x d t=none:=by unfold M7;rw[f8 O,f8 O]
theorem tN(l t:List UInt8):((bs l).toList == (bs t).toList)=decide (l=t):=by rw[dd,dd,uu];simp
theorem ai.put1{W:J}{g:Nat}{p q:Int}(h:ai w W g p q)(q':Int):ai w (W.setCell (IM g 1) (U q')) g p q' :=
 ⟨h.ext.setCell h.ge _,h.ge,aM W g 1 _ _ _ h.cell⟩
def Sd(h:σ:=by
 have Re:=V2.c0;have QP:=V2.c1;have Rk:=I (jy (w:=w4) x y (dP HTB.o V2.ext));have Lb:=I (Jz (FE (x,y)));have⟨tr,G5⟩:=j7 (bs (FE (x,y)));rw[<-G5]at Rk Lb;clear G5;go_wp2_with rfl;refine Rk.mono ?_;rintro e w5 ⟨rfl,F'⟩;have FG:=I (Hc.grow F');have HF5:=I (V2.grow F');have q0:=FG.c0;have q1:=FG.c1;have qf:=FG.free;have u0:=HF5.c0;have u1:=HF5.c1;clear F' Re QP Rk;by_cases he:FE (x,y)=t
 ·have Nx:(tr.toList == tt.toList)=true:=by rw[Lb.o,bl he]
  have HZ:=I (L8.trans (i7 he));clear he;go_wp2;refine GE (v:=.tuple #[.agg #[U x,U y],ato true]) LA rfl ⟨by rw[HZ.o];rfl,(FG.put _ _).ext⟩
 ·have Nx:(tr.toList == tt.toList)=false:=by rw[Lb.o,RK he]
  have HZ:=I (L8.trans (f8 he));clear he;go_wp2;refine GE (v:=.tuple #[.agg #[U 0,U 0],ato false]) LA rfl ⟨by rw[HZ.o];rfl,(FG.put _ _).ext⟩
 ):σ:=h
def UL(h:σ:=by
 have q0:=HB.c0;have q1:=HB.c1;have qf:=HB.free;go_wp2;refine GE (v:=.tuple #[.agg #[U 0,U 0],ato false]) LA rfl ⟨by rw[HZ.o];rfl,(HB.put _ _).ext⟩
 ):σ:=h
theorem BR {w: J}(t : List UInt8)(ht : Lp t <= 1099511627700)(htab : tIw w) :
 f9 86 #[atr (bs t)] w (Kg ((Mq t).getD (0,0),(Mq t).isSome)):=by
 have HTB:=I htab;have⟨W,hW⟩:=j7 (w.alloc (SH #[U 0,U 0] 80));have Qi:=I (show ai w W w 0 0 by rw[hW];exact ai.new So _ _);have Gc:=I (jz (w:=W) t 47 ht);have⟨L,hL⟩:=j7 (E0 47 t);have GD:=I (show 1<=Lp L by rw[hL];exact iD _ _);have⟨R,hR⟩:=j7 (Mq t);have HR:=I (show R=M7 L (dm (L[0]?.getD [])) (dm (L[1]?.getD [])) t by rw[hR,hL];rfl);have Jz:=I (λl=>tN l t);rw[<-hR];rw[<-hL]at Gc;have⟨tt,F2⟩:=j7 (bs t);simp only[<-F2]at Gc Jz;rw[<-F2];clear hR hL F2;unfold f9;go_in
 go_upto_region 1 with rfl;rw[<-hW];clear hW;go_wp2_with rfl;refine yf Gc λw1 v ho hx=>?_;obtain⟨a1,n1,c1,rfl,HN1⟩:=ho.var;have JE:=I ho.JG;have FJ:=I (Qi.grow hx);have⟨Nk,Ng⟩:=JE.ath;have Ht:1<=n1:=by have h1:=HN1.o;have h2:=GD.o;omega
 clear hx;obtain⟨lb,lo,x0,rfl,Mk,Fo⟩:=JE.at (k:=0) O;have q0:w1.cell? (IM lb lo)=some (atr (bs x0)):=by simpa[B6]using Fo 0 _ rfl
 have Mm:=I (nd (w:=w1) x0);have GV:=I HR.o;rw[Mk,NE]at GV;generalize dm x0=r0 at GV Mm;generalize bs x0=t0 at q0 Mm;go_wp2_with rfl;refine Mm.mono ?_;rintro e w1' ⟨rfl,rfl⟩;have⟨x,JT⟩:=Ok (r0.getD 0);rw[<-JT.o];go_wp2_with rfl;refine qc (cW x _) λw2 hx=>?_;refine Op ((FJ.grow hx).grow (D4.alloc w2 (SH #[U x,U 1] 80))) (show ai w (w2.alloc (SH #[U x,U 1] 80)) w2 x 1 from ai.new (FJ.ext.trans hx) _ _) ((JE.ext hx).ext (D4.alloc w2 (SH #[U x,U 1] 80))) (show w.heap.size<w2.heap.size by have h1:=FJ.lt;have h2:=hx.size;omega) λHB HF IN Oq=>?_;have⟨w3,Gn⟩:=j7 (w2.alloc (SH #[U x,U 1] 80));rw[<-Gn]at HB HF IN;go_upto_region 4 with rfl;rw[<-Gn];clear Gn;generalize w2.heap.size=g at HF Oq⊢;cases r0 with
 | none =>
   have HZ:=I (show R=none by rw[GV.o];exact AO);exact UL
 | some y0 =>
   obtain rfl:x=y0:=JT.o;by_cases Pc:n1=2
   ·subst Pc;have⟨lb',lo',x1,e',ZQ,FQ⟩:=IN.at (k:=1) O;obtain⟨rfl,rfl⟩:=er e';clear e';have q1:w3.cell? (IM lb (lo+1))=some (atr (bs x1)):=by simpa[B6]using FQ 0 _ rfl
    rw[ZQ,NE]at GV;have Mm:=I (nd (w:=w3) x1);generalize dm x1=r1 at GV Mm;generalize bs x1=t1 at q1 Mm;have f1:=HF.free 1;have f2:=HF.c1;have⟨y,HY⟩:=Ok (r1.getD 0);rw[<-HY.o]at Mm;have Hc:=I (HB.other (a:=(IM g 1)) (by have:=Oq.o;simp;omega) (by have:=Oq.o;simp;omega) (U y));have V2:e9 (ai w (w3.setCell (IM g 1) (U y)) g x y):=HF.put1 y;have⟨w4,Hr⟩:=j7 (w3.setCell (IM g 1) (U y));rw[<-Hr]at Hc V2;go_wp2_with rfl;refine Mm.mono ?_;rintro e w3' ⟨rfl,rfl⟩;go_upto_region 6 with rfl;rw[<-Hr];clear Hr;cases r1 with
    | none =>
      have HZ:=I (show R=none by rw[GV.o];exact AP HN1);have r0:=Hc.c0;have r1:=Hc.c1;have rf:=Hc.free;go_wp2;refine GE (v:=.tuple #[.agg #[U 0,U 0],ato false]) (by simp[results,Tryz.results86,go_sem,r0,r1,rf]) rfl ⟨by rw[HZ.o];rfl,(Hc.put _ _).ext⟩
    | some y1 =>
      obtain rfl:y=y1:=HY.o;have L8:=I (GV.trans (AR (x:=x) (y:=y) (t:=t) HN1));exact Sd
   have hne:((n1:Int) == 2)=false:=t8;by_cases Nw:n1=1
   ·subst Nw;refine Fn HB.o HF.o (GV.trans (AQ (x:=x) (t:=t) HN1)) λHc V2 L8=>?_;have⟨w4,Hr⟩:=j7 w3;subst Hr;go_upto_region 6 with rfl;obtain⟨y,hy⟩:∃y:Int,y=1:=⟨_,rfl⟩;rw[<-hy]at V2 L8;clear hy;exact Sd
   have NL:2<n1:=O;have HZ:=I (show R=none by rw[GV.o];exact rD (by rw[HN1.o];exact NL));exact UL
def ZC(h:σ:=by
 go_wp2;refine GE (v:=.tuple #[.agg #[U 0,U 0],ato false]) KV rfl ⟨by rw[HZ.o];rfl,(Pv.put _ _).ext⟩
 ):σ:=h
theorem CH(t:List UInt8)(ht:Lp t<=1099511627700):
 f9 97 #[atr (bs t)] w (Kg ((Mq t).getD (0,0),(Mq t).isSome)):=by
 have⟨W,hW⟩:=j7 (w.alloc (SH #[U 0,U 0] 80));have Qi:=I (show ai w W w 0 0 by rw[hW];exact ai.new So _ _);have Gc:=I (im (w:=W) t 47 ht);have⟨L,hL⟩:=j7 (E0 47 t);have GD:=I (show 1<=Lp L by rw[hL];exact iD _ _);have⟨R,hR⟩:=j7 (Mq t);have HR:=I (show R=M7 L (dm (L[0]?.getD [])) (dm (L[1]?.getD [])) t by rw[hR,hL];rfl);have Jz:=I (λl=>tN l t);have NZ:=I (show(dm (L[0]?.getD [])).isSome=true->∃c r,(bs t).toList=c::r by
  intro h;rw[dd];cases t with
  | nil=>rw[hL]at h;exact absurd h FS
  | cons c r=>exact⟨c,r,rfl⟩)
 rw[<-hR];rw[<-hL]at Gc;have⟨tt,F2⟩:=j7 (bs t);simp only[<-F2]at Gc Jz NZ;rw[<-F2];clear hR hL F2;unfold f9;go_in
 go_upto_region 1 with rfl;rw[<-hW];clear hW;go_wp2_with rfl;refine yf Gc λw1 v ho hx=>?_;obtain⟨a1,K,c1,rfl,G⟩:=ho.var;have JE:=I ho.JG;have FJ:=I (Qi.grow hx);have⟨Nk,Ng⟩:=JE.ath;have Ht:1<=K:=by have H:=G.o;have h2:=GD.o;omega
 obtain⟨lb,lo,x0,rfl,Mk,Fo⟩:=JE.at (k:=0) O;have q0:w1.cell? (IM lb lo)=some (atr (bs x0)):=by simpa[B6]using Fo 0 _ rfl
 have Mm:=I (nO (w:=w1) x0);have GV:=I HR.o;rw[Mk,NE]at GV NZ;generalize dm x0=r0 at GV Mm NZ;generalize bs x0=t0 at q0 Mm;go_wp2_with rfl;refine i6 Mm λw2 hx=>?_;have GL:=I (FJ.grow hx);have IN:=I (JE.ext hx);have⟨x,JT⟩:=Ok (r0.getD 0);rw[<-JT.o];have⟨one,Ip⟩:=Ok r0.isSome;rw[<-Ip.o]at NZ⊢;go_upto_if 21 with rfl
 go_cut [7,8] (λsd st wx=>∃(d:Int) (two:Bool),sd=U d/\st=ato two/\e9 (if K=1 then d=1/\two=true else d=(dm (L[1]?.getD [])).getD 0/\two=(dm (L[1]?.getD [])).isSome)/\e9 (D4 w2 wx))
 case first =>
  by_cases H:K=1
  ·subst H;go_wp2;go_meet;exact⟨1,true,rfl,rfl,I j9,I So⟩
  have h2:1<K:=O;have⟨lb',lo',x1,e',ZQ,FQ⟩:=IN.at (k:=1) O;obtain⟨rfl,rfl⟩:=er e';clear e';have q1:w2.cell? (IM lb (lo+1))=some (atr (bs x1)):=by simpa[B6]using FQ 0 _ rfl
  have Mm:=I (nO (w:=w2) x1);have Vf:=I (show L[1]?.getD []=x1 by rw[ZQ];rfl);generalize bs x1=t1 at q1 Mm;go_wp2_with rfl;refine i6 Mm λw3 hx=>?_;have C5:=I hx;go_wp2;go_meet;exact⟨_,_,rfl,rfl,I (by rw[f8 H,Vf.o];exact⟨rfl,rfl⟩),C5⟩
 obtain⟨d,two,rfl,rfl,HD,C5⟩:=hcut;have Pv:=I ((GL.grow C5).grow (D4.alloc wc (SH #[U x,U d] 80)));have HF:e9 (ai w (wc.alloc (SH #[U x,U d] 80)) wc x d):=ai.new (GL.ext.trans C5) _ _;have⟨w4,Hr⟩:=j7 (wc.alloc (SH #[U x,U d] 80));rw[<-Hr]at Pv HF;go_upto_region 8 with rfl;rw[<-Hr];clear Hr;generalize wc.heap.size=g at HF⊢;have q0:=Pv.c0;have q1:=Pv.c1;have qf:=Pv.free;cases one with
 | false =>
   have HZ:=I (show R=none by
    rw[GV.o];cases r0 with
    | none=>exact AO
    | some y=>exact absurd Ip.o j9)
   exact ZC
 | true =>
   have⟨tc,Z,OC⟩:=NZ.o rfl;have K8:=I (show R=M7 L (some x) (dm (L[1]?.getD [])) t by
    rw[GV.o];cases r0 with
    | none=>exact absurd Ip.o j9
    | some y=>rw[show x=y from JT.o])
   cases two with
   | false =>
     have HZ:=I (show R=none by
      have hd:=HD.o;rw[K8.o];by_cases H:K=1
      ·rw[i7 H]at hd;exact absurd hd.2 j9
      rw[f8 H]at hd;have hno:dm (L[1]?.getD [])=none:=by
       cases h:dm (L[1]?.getD [])with
       | none=>rfl
       | some y=>rw[h]at hd;exact absurd hd.2 j9
      rw[hno];by_cases h2:Lp L=2
      ·exact AP h2
      exact rD (l8 G.o))
     exact ZC
   | true =>
     by_cases h3:2<K
     ·have HZ:=I (show R=none by rw[K8.o];exact rD (by rw[G.o];exact h3));exact ZC
     have L8:=I (show R=if FE (x,d)=t then some (x,d) else none by
      have hd:=HD.o;rw[K8.o];by_cases H:K=1
      ·rw[i7 H]at hd;rw[hd.1];exact AQ (by rw[G.o];exact H)
      rw[f8 H]at hd;cases h:dm (L[1]?.getD [])with
      | none=>rw[h]at hd;exact absurd hd.2 j9
      | some y =>
        rw[h]at hd;rw[hd.1];exact AR (l8 G.o))
     have Re:=HF.c0;have QP:=HF.c1;have Rk:=I (mv (w:=w4) x d);have Lb:=I (Jz (FE (x,d)));generalize bs (FE (x,d))=tg at Rk Lb;rw[OC]at Lb;go_wp2_with rfl;refine i6 Rk λw5 F'=>?_;have FG:=I (Pv.grow F');have HF5:=I (HF.grow F');have q0:=FG.c0;have q1:=FG.c1;have qf:=FG.free;have u0:=HF5.c0;have u1:=HF5.c1;by_cases he:FE (x,d)=t
     ·have Nx:(tg.toList == (tc::Z))=true:=by rw[Lb.o,bl he]
      have HZ:=I (L8.trans (i7 he));go_wp2;refine GE (v:=.tuple #[.agg #[U x,U d],ato true]) KV rfl ⟨by rw[HZ.o];rfl,(FG.put _ _).ext⟩
     have Nx:(tg.toList == (tc::Z))=false:=by rw[Lb.o,RK he]
     have HZ:=I (L8.trans (f8 he));go_wp2;refine GE (v:=.tuple #[.agg #[U 0,U 0],ato false]) KV rfl ⟨by rw[HZ.o];rfl,(FG.put _ _).ext⟩
theorem rR(c:UInt8)(l:List UInt8):∀i,∀x∈(GO c l i).1,Lp x<=Lp l
 | 0=>λx h=>by cases h
 | i+1=>λx h=>by
   unfold GO at h
   split at h
   ·rcases Pm.1 h with h|h
    ·exact rR c l i x h
    rw[Nu]at h;subst h;rw[C3,jt];omega
   exact rR c l i x h
theorem lu{c:UInt8}{l x:List UInt8}(h:x∈E0 c l):Lp x<=Lp l:=by
 unfold E0 at h;rcases Pm.1 h with h|h
 ·exact rR c l _ x h
 rw[Nu]at h;subst h;rw[C3];omega
theorem mi(c:UInt8)(l:List UInt8):Lp (E0 c l)<=Lp l+1:=by
 have:=(pR c l (Lp l)).2;unfold E0;rw[ar,bA];omega
theorem ID.drop1{b o n cap:Nat}{l:List (List UInt8)}(h:ID B6 w (some (IM b o)) (n+1) (cap+1) l):ID B6 w (some (IM b (o+1))) n cap (l.drop 1):=by
 refine⟨by rw[C3,h.hlen];omega,by have:=h.y7;omega,by have:=h.y8;omega,λk hk=>⟨b,o+1,rfl,λk x j v G H=>?_⟩⟩;have⟨b',o',e,hc⟩:=h.cell 0 O;obtain⟨rfl,rfl⟩:=er e;rw[QL]at G;have:=hc (1+k) x j v G H;rw[show b=b from rfl]at this;have K:o+(1+k)*B6.c+j=o+1+k*B6.c+j:=by show o+(1+k)*1+j=o+1+k*1+j;omega
 rwa [K]at this
end
section
variable{w:J}{base n m dap:Nat}{a b:o6}
def ts(h:σ:=by
 (try unfold f9);go_in
 go_wp2;go_ret;exact⟨rfl,So⟩
 ):σ:=h
theorem xS(l:List UInt8)(ok:Bool):f9 64 #[atr (bs l),ato ok] w (atr (bs (eC l ok))):=by
 cases ok
 all_goals
  exact ts
theorem zf(l:List UInt8)(ok:Bool):f9 187 #[ato ok,atr (bs l)] w (atr (bs (eC l ok))):=by
 cases ok
 all_goals
  exact ts
theorem D7.of{r:St×List UInt8}{p:Int}{cap:Nat}{V:o7}{X:o3}{t:List UInt8}{s:ByteArray}(h:r=(⟨p,V,X⟩,t))(hs:s=bs t)(ho:aG w base a n cap b m dap V X):D7 w base (atn (.tuple #[sess p a n cap b m dap,atr s])) r:=by
 subst h;subst hs;exact⟨_,_,_,_,_,_,rfl,ho⟩
theorem D7.re{r R:St×List UInt8}{p:Int}{cap:Nat}{s:ByteArray}(h:r=R)(G:p=R.1.p)(hs:s=bs R.2)(ho:aG w base a n cap b m dap R.1.V R.1.X):D7 w base (atn (.tuple #[sess p a n cap b m dap,atr s])) r:=by
 subst h;subst hs;subst G;exact⟨_,_,_,_,_,_,rfl,ho⟩
theorem b9.keep{W:J}{p:Int}{cap:Nat}(h:b9 w W p a n cap b m dap):W.cell? (IM w 0)=some (U p)/\W.cell? (IM w 1)=some (FB a n cap)/\W.cell? (IM w 2)=some (FB b m dap)/\D4 w W :=
 let⟨c0,c1,c2,_⟩:=h.s.c
 ⟨c0,c1,c2,h.x⟩
theorem b9.point{W:J}{p:Int}{cap:Nat}(h:b9 w W p a n cap b m dap)(b':o6)(m' GH:Nat):b9 w (W.setCell (IM w 2) (FB b' m' GH)) p a n cap b' m' GH :=
 ⟨h.x.store 2 (m9 _) _,h.s.Vk _,(If _ _ _ _ j9).trans h.r⟩
section
variable{w:J}{p:Int}{a b:o6}{n cap m dap:Nat}{V:o7}{X:o3}{base:Nat}
def Sc(h:σ:=by
 have⟨z0,z1,z2,HZ,XZ⟩:=HT.FP HO.o (p);go_wp2;refine GE cr rfl ⟨D7.of (rfl) rfl HZ.o,XZ⟩
 ):σ:=h
theorem kl (hO : aG w base a n cap b m dap V X) {pa : Option Addr} {pn pc : Nat} {P : List (Int × Int)} {ok : Bool} (hP : ok = true -> ZM w base (FB pa pn pc) P /\ pn <= 100000) (htab : tIw w) :
 Calls prog 58 #[sess p a n cap b m dap,FB pa pn pc,ato ok] w λe w'=>D7 w' base e (dR ⟨p,V,X⟩ P ok)/\D4 w w':=by
 have⟨W,hW,HT,HO,⟨c0,c1,c2,cf⟩,r0,r1,r2,rf⟩:=fY p hO;have HTB:=I htab;have HP:=I hP;go_in
 go_upto_region 1 with rfl;rw[<-hW];clear hW;cases ok with
 | false =>
   have qq0:=@results58;exact Sc
 | true =>
   have⟨hp,hpn⟩:=HP.o rfl;have⟨w1,Jl⟩:=j7 (W.setCell (IM w 2) (FB pa pn pc));have HT1:=I (show b9 w w1 p a n cap pa pn pc by rw[Jl];exact HT.point _ _ _);have HO1:=I (show aG w1 base a n cap pa pn pc V P by rw[Jl];exact aG.set2 (X:=P) ⟨HO.v,hp.ext HT.x⟩ HT.s _);have HFV:=I (λ(w':J) (hx:D4 w1 w')=>ui (HO1.x.rats.ext hx) hpn (dP HTB.o (HT1.x.trans hx)));have⟨tt,Pq⟩:=Ok (bs (Sg P));simp only[<-Pq.o]at HFV;go_upto_region 4 with rfl;rw[<-Jl];clear Jl;have hk:=D4.drew w1;refine k6 (S:=(λw'=>w'.cell? (IM w 0)=some (U p)/\w'.cell? (IM w 1)=some (FB a n cap)/\w'.cell? (IM w 2)=some (FB pa pn pc)/\D4 w w')) k8 ?_ (λr9=>?_)
   ·exact(HT1.ext hk).keep
   refine tk 0 ?_;refine tk 1 ?_;refine rd 2 λK hK=>?_;go_simp
   (go_at_call 122;refine i6 (HFV _ hk) λw3 C0=>?_;have hk:=hk.trans C0)
   go_wp2_with rfl;refine KO ((HT1.ext hk).keep) λr9=>?_;have GU:=I (HT1.ext hk);have C8:=I (HO1.ext hk);have⟨r0,r1,r2,rf⟩:=GU.r.c;have⟨z0,z1,z2,HZ,XZ⟩:=GU.FP C8.o p;refine rd 3 λK hK=>?_;go_simp;refine KO (iW GU.o XZ) λr9=>?_;refine tk 4 ?_;refine ST k8 ?_ _;go_wp2;refine GE (by simp[results,results58,go_sem,r0,r1,r2,rf,z0,z1,z2]<;>rfl) rfl ⟨D7.of rfl Pq.o HZ.o,XZ⟩
theorem za(k:Nat)(hk:k<=999999):ak (k:Int) (FZ (λ_=>0) (Gg (k:Int)).toNat)=decide (1<=(k:Int)/\(k:Int)<=5):=by
 by_cases h:1<=k/\k<=5
 ·rw[dT k h.2,eI,bl O];exact AT h.1 h.2 rfl (λ_ _=>by omega)
 rw[RK O,We];intro hg;obtain⟨q,hq,h1,h5,_⟩:=ap hg;omega
theorem ue:Rd prog 79:=cE func79 k8 k8
theorem wI(s:Int)(w:J):f9 79 #[U s] w (U 0):=by
 exact ts
theorem O7(N:Nat):FZ (λ_=>(0:Int)) N=List.replicate N 0:=by unfold FZ;exact List.map_const' .. |>.trans j9
theorem SX(k:Nat):(Gg (k:Int)).toNat<=32/\Gg (k:Int)=((Gg (k:Int)).toNat:Int):=by
 by_cases h:k<=5
 ·rw[dT k h,eI];exact⟨(bp k h).2,rfl⟩
 have:Gg (k:Int)=0:=by unfold Gg;rw[f8 q7]
 rw[this];exact⟨by decide,rfl⟩
theorem XM{l:List UInt8}(h:0<=aH l 6):aH l 6<=999999:=by
 unfold aH at h⊢;split
 ·next g =>
  have h2:=uN l g.2.2;have h3:10^Lp l<=10^6:=cC FS g.1.2;omega
 omega
def jU(s:St)(d:Int):St×List UInt8:=if 0<=d then jF s d else(s,fM)
def jT(s:St)(d:Int):St×List UInt8:=if 0<=d then kB s d else(s,fM)
def vC(h:σ:=by
 go_wp2;refine GE cr rfl ⟨D7.of (KS.o) rfl HZ.o,XZ⟩
 ):σ:=h
def RT(h:σ:=by
 have⟨z0,z1,z2,HZ,XZ⟩:=HT.FP HO.o p;go_wp2_with rfl;refine(M0 _).mono ?_;rintro e w1 ⟨rfl,rfl⟩;go_wp2;refine GE cr rfl ⟨D7.of HS.o rfl HZ.o,XZ⟩
 ):σ:=h
theorem xR(hO:aG w base a n cap b m dap V X)(hb:base<=w.heap.size)(l:List UInt8):
 Calls prog 27 #[sess p a n cap b m dap,atr (bs l)] w λe w'=>D7 w' base e (jU ⟨p,V,X⟩ (aH l 6))/\D4 w w':=by
 have⟨W,hW,HT,HO,⟨c0,c1,c2,cf⟩,r0,r1,r2,rf⟩:=fY p hO;have M0:=I (λ(w':J)=>oh (w:=w') l);have IY:=I (XM (l:=l));have⟨d,hd⟩:=j7 (aH l 6);simp only[<-hd]at M0 IY;have⟨Z,Kp⟩:=Ok (jU ⟨p,V,X⟩ d);rw[<-hd,<-Kp.o];have Kt:=I hb;clear hd;go_in
 go_upto_region 1 with rfl;rw[<-hW];clear hW;have⟨tt,F2⟩:=j7 (bs l);simp only[<-F2]at M0;rw[<-F2];clear F2;by_cases Q:0<=d
 ·rw[i7 Q,bl Q]at M0;obtain⟨k,rfl⟩:∃k:Nat,d=k:=⟨d.toNat,by omega⟩;have hk9:k<=999999:=by have:=IY.o Q;omega
  have HS:e9 (jU ⟨p,V,X⟩ (k:Int)=jF ⟨p,V,X⟩ (k:Int)):=i7 Q;have⟨hN,Oi⟩:=SX k;have⟨B,hB⟩:=j7 (decide (1<=(k:Int)/\(k:Int)<=5));have HMD:=I (Av (w:=W) (n:=k) (N:=(Gg (k:Int)).toNat) (ca:=#[]) (f:=λ_=>0) (B:=B) hN (λw'=>by rw[<-Oi];exact ev (k:Int) w') ue (λs w1 _ _=>wI (s:Int) w1) (by rw[za k hk9,hB]))
  have Ka:=I (show jF ⟨p,V,X⟩ (k:Int)=if B=true then(⟨k,FZ (λ_=>0) (Gg (k:Int)).toNat,[]⟩,R6) else(⟨p,V,X⟩,PA)by
   unfold jF;rw[hB];by_cases h:1<=(k:Int)/\(k:Int)<=5
   ·rw[i7 h,i7 (bl h),O7,dT k O];simp
   rw[f8 h,f8 (by rw[RK h];simp)])
  generalize (Gg (k:Int)).toNat=N at HMD Ka;have KS:=I (Kp.trans (HS.trans Ka));clear hB Oi;go_wp2_with rfl;refine(M0 _).mono ?_;rintro e w1 ⟨rfl,rfl⟩;go_wp2_with rfl;refine PP HMD λw2 v ho hx=>?_;obtain⟨a2,K,G,rfl,Jb⟩:=ho.var;refine Fn (ho.mono (bR Kt.o HT.x.size)) ((HT.ext hx).ext (D4.alloc w2 (SH #[U ((if B=true then k else 0:Nat):Int),FB a2 K G] 31))) ((HO.ext hx).ext (D4.alloc w2 (SH #[U ((if B=true then k else 0:Nat):Int),FB a2 K G] 31))) λHG H FM=>?_;have Ly:=I (HG.ext (D4.alloc w2 (SH #[U ((if B=true then k else 0:Nat):Int),FB a2 K G] 31)));have Lb:=I (ah w2 (SH #[U ((if B=true then k else 0:Nat):Int),FB a2 K G] 31) _ rfl);cases B with
  | false =>
    simp only[sv,j',show((0:Nat):Int)=0 from rfl]at H FM Ly Lb⊢;have⟨w3,Gn⟩:=j7 (w2.alloc (SH #[U 0,FB a2 K G] 31));rw[<-Gn]at H FM Ly Lb;go_upto_region 5 with rfl;rw[<-Gn];clear Gn;have⟨c0,c1,c2,cf⟩:=H.s.c;have⟨r0,r1,r2,rf⟩:=H.r.c;have⟨z0,z1,z2,HZ,XZ⟩:=H.FP FM.o (p);have qq0:=@Zr;exact vC
  | true =>
    simp only[G6]at H FM Ly Lb⊢;have⟨w3,Gn⟩:=j7 (w2.alloc (SH #[U ((k:Nat):Int),FB a2 K G] 31));rw[<-Gn]at H FM Ly Lb;go_upto_region 5 with rfl;rw[<-Gn];clear Gn;have g0:=bI Lb.o;have g1:=aL Lb.o;have⟨r0,r1,r2,rf⟩:=H.r.c;have C8:e9 (aG w3 base a2 K G none 0 0 (FZ (λ_=>0) N) []):=I ⟨Ly,og⟩;have⟨z0,z1,z2,HZ,XZ⟩:=H.FP C8.o ((k:Nat):Int);have qq0:=@Zr;exact vC
 rw[f8 Q,RK Q]at M0;have HS:=I (Kp.trans (show jU ⟨p,V,X⟩ d=(⟨p,V,X⟩,fM)from f8 Q));have qq0:=@Zr;exact RT
theorem zh(s:St)(k:Int):kB s k=if J7 k=true then(⟨Iq k,Ib k,[]⟩,R6) else(s,PA):=by
 unfold kB;by_cases h:J7 k=true
 ·rw[i7 h,f8 (λe=>by rw[xm]at e;rw[h]at e;cases e)]
 rw[f8 h,i7 ((xm k).2 ZN)]
theorem xQ(hO:aG w base a n cap b m dap V X)(hb:base<=w.heap.size)(l:List UInt8):
 Calls prog 29 #[sess p a n cap b m dap,atr (bs l)] w λe w'=>D7 w' base e (jT ⟨p,V,X⟩ (aH l 6))/\D4 w w':=by
 have⟨W,hW,HT,HO,⟨c0,c1,c2,cf⟩,r0,r1,r2,rf⟩:=fY p hO;have M0:=I (λ(w':J)=>oh (w:=w') l);have⟨d,hd⟩:=j7 (aH l 6);simp only[<-hd]at M0;have⟨Z,Kp⟩:=Ok (jT ⟨p,V,X⟩ d);rw[<-hd,<-Kp.o];have Kt:=I hb;clear hd;go_in
 go_upto_region 1 with rfl;rw[<-hW];clear hW;have⟨tt,F2⟩:=j7 (bs l);simp only[<-F2]at M0;rw[<-F2];clear F2;by_cases h0:0<=d
 ·rw[i7 h0,bl h0]at M0;refine Fn (Kp.trans (show jT ⟨p,V,X⟩ d=kB ⟨p,V,X⟩ d from i7 h0)) (DG (w:=W) d) (zh ⟨p,V,X⟩ d) λHSX Ot H=>?_;have⟨B,hB⟩:=j7 (J7 d);unfold Vw at Ot;rw[<-hB]at Ot H;generalize Iq d=q,Ib d=L at Ot H;have KS:=I (HSX.trans H);clear hB;go_wp2_with rfl;refine(M0 _).mono ?_;rintro e w1 ⟨rfl,rfl⟩;go_wp2_with rfl;refine PP Ot λw2 v ho hx=>?_;obtain⟨a2,K,G,rfl,Jb⟩:=ho.var;refine Op ((ho.mono (bR Kt.o HT.x.size)).ext (D4.alloc w2 (SH #[U q,FB a2 K G] 31))) ((HT.ext hx).ext (D4.alloc w2 (SH #[U q,FB a2 K G] 31))) ((HO.ext hx).ext (D4.alloc w2 (SH #[U q,FB a2 K G] 31))) (ah w2 (SH #[U q,FB a2 K G] 31) _ rfl) λLy GJ FM Lb=>?_;have⟨w3,Gn⟩:=j7 (w2.alloc (SH #[U q,FB a2 K G] 31));rw[<-Gn]at GJ FM Ly Lb;go_upto_region 5 with rfl;rw[<-Gn];clear Gn;have⟨r0,r1,r2,rf⟩:=GJ.r.c;cases B with
  | false =>
    have⟨c0,c1,c2,cf⟩:=GJ.s.c;have⟨z0,z1,z2,HZ,XZ⟩:=GJ.FP FM.o (p);have qq0:=@W1;exact vC
  | true =>
    have g0:=bI Lb.o;have g1:=aL Lb.o;have C8:e9 (aG w3 base a2 K G none 0 0 L []):=I ⟨Ly,og⟩;have⟨z0,z1,z2,HZ,XZ⟩:=GJ.FP C8.o ((q:Nat):Int);have qq0:=@W1;exact vC
 rw[f8 h0,RK h0]at M0;have HS:=I (Kp.trans (show jT ⟨p,V,X⟩ d=(⟨p,V,X⟩,fM)from f8 h0));have qq0:=@W1;exact RT
theorem zT (hO : aG w base a n cap b m dap V X) (hb : base <= w.heap.size) (l : List UInt8) (hl : Lp l <= 1048576) (htab : tIw w) :
 Calls prog 30 #[sess p a n cap b m dap,atr (bs l)] w λe w'=>D7 w' base e (gq ⟨p,V,X⟩ (E0 32 l))/\D4 w w':=by
 have⟨W,hW,HT,HO,⟨c0,c1,c2,cf⟩,r0,r1,r2,rf⟩:=fY p hO;refine Fn htab hb (λ(w':J)=>jz (w:=w') l 32 O) λHTB Kt Gc=>?_;have⟨L,hL⟩:=j7 (E0 32 l);refine Fn (show∀x∈L,Lp x<=1048576 by rw[hL];exact λx hx=>bR (lu hx) hl) (show Lp L<=1048577 by rw[hL];have:=mi 32 l;omega) (show gq ⟨p,V,X⟩ L=(match Ow L with|none=>(⟨p,V,X⟩,PA)|some Y=>(⟨p,V,Y⟩,if Gf p V Y=true then [121,101,115] else [115,117,109]))from rfl) λOW Lw HSY=>?_;have⟨Z,hZ⟩:=j7 (gq ⟨p,V,X⟩ L);simp only[<-hL]at Gc;rw[<-hZ]at HSY;rw[<-hL,<-hZ];clear hL hZ;go_in
 go_upto_region 1 with rfl;rw[<-hW];clear hW;have⟨tt,F2⟩:=j7 (bs l);simp only[<-F2]at Gc;rw[<-F2];clear F2;have⟨W1,Ol⟩:=j7 (W.alloc (SH #[] 80));refine Op (show b9 w W1 p a n cap b m dap by rw[Ol];exact HT.ext ZL) (show aG W1 base a n cap b m dap V X by rw[Ol];exact HO.ext ZL) (show ZM W1 W (GT W 0 0) []by rw[Ol];exact ZM.made _ _ (m9 _)) (show D4 W W1 by rw[Ol];exact ZL) λHTA HOA HPA HWW=>?_;go_upto_region 2 with rfl;rw[<-Ol];clear Ol;go_wp2_with rfl;refine yf (Gc _) λw1 v ho hx=>?_;obtain⟨a1,n1,c1,rfl,HN1⟩:=ho.var;refine Fn ho.JG (HPA.ext hx) (HWW.trans hx) λJE K9 A6=>?_;have⟨Nk,Ng⟩:=JE.ath;have HW1S:=I (show∀wr,D4 W wr->b9 w wr p a n cap b m dap/\aG wr base a n cap b m dap V X from λwr h=>⟨HT.ext h,HO.ext h⟩);have Ht:n1<=1048577:=by have h1:=HN1.o;have h2:=Lw.o;omega
 have HOG:=I ho;go_wp2
 go_loopg [6,15] n1 (λgk pp ii wr=>∃(k:Nat) (a4:o6) (n4 c4:Nat) (P:o3),e9 (gk+k=n1)/\ii=U k/\pp=FB a4 n4 c4/\e9 (Nm (λk=>Mq (L[k]?.getD [])) k=some P)/\e9 (ZM wr W (FB a4 n4 c4) P)/\e9 (D4 W wr)/\e9 (A9 B6 9 wr W1 (FB a1 n1 c1) L))
 ·exact⟨0,_,_,_,[],I O,rfl,rfl,I rfl,K9,A6,HOG⟩
 obtain⟨k,a4,n4,c4,P,HK,rfl,rfl,L8,KT,IX,HGG⟩:=hrel;by_cases hlt:k<n1
 ·obtain⟨lb,lo,x0,rfl,Mk,Fo⟩:=HGG.JG.at hlt;have q0:wr.cell? (IM lb (lo+k))=some (atr (bs x0)):=by simpa[B6]using Fo 0 _ rfl
  have HPR:=I (BR (w:=wr) x0 (l8 (OW x0 (MV Mk))) (dP HTB.o (HT.x.trans IX)));have Tw:=I (show(λk=>Mq (L[k]?.getD [])) k=Mq x0 by simp only[Mk,NE]);generalize Mq x0=R at HPR Tw;generalize bs x0=t0 at q0 HPR;have IG:=SW k n1
  cases R with
  | none =>
    have KS:=I (show Z=(⟨p,V,X⟩,PA)by
     rw[HSY.o,show Ow L=none from by unfold Ow;exact fB L8.o Tw.o (l8 HN1.o)])
    go_wp2_with rfl;refine i6 HPR λw4 E4=>?_;have Hh:=I ((IX.trans E4).trans (D4.alloc w4 (SH #[U 0,U 0] 80)));have⟨w5,Gz⟩:=j7 (w4.alloc (SH #[U 0,U 0] 80));rw[<-Gz]at Hh;go_upto_region 6 with rfl;rw[<-Gz];clear Gz;have⟨t5,o5⟩:=HW1S.o _ Hh.o;have GJ:=I t5;have FM:=I o5;have⟨c0,c1,c2,cf⟩:=t5.s.c;have⟨r0,r1,r2,rf⟩:=t5.r.c;have⟨z0,z1,z2,HZ,XZ⟩:=GJ.FP FM.o (p);have qq0:=@E2;exact vC
  | some xy =>
    obtain⟨x,y⟩:=xy;have NX:=I (eg L8.o Tw);have Ka:=I (cZ L8);go_wp2_with rfl;refine i6 HPR λw4 E4=>?_;have FG:e9 (ai wr (w4.alloc (SH #[U x,U y] 80)) w4 x y):=ai.new E4 _ _;have⟨w5,Gz⟩:=j7 (w4.alloc (SH #[U x,U y] 80));rw[<-Gz]at FG;go_upto_region 6 with rfl;rw[<-Gz];clear Gz;have q0:=FG.c0;have q1:=FG.c1;have hsz:=(IX.trans FG.ext).size
    go_wp2_with (first
     | (at_builtin;refine cH rfl _ _ rfl W (FB a4 n4 c4) _ rfl ((KT.ext FG.ext).ext ZL) _ 1 _ [(x,y)] rfl (z6 j9) (l8 Ka.o) t8 ?_;intro v9 w9 ho It r';have Kq:=I (aj ((IX.trans FG.ext).trans ZL) It (λj hj=>(KT.lt j hj).1));have Tv:e9 (A9 B6 9 w9 W1 (FB (some (IM lb lo)) n1 c1) L):=((HGG.ext FG.ext).ext ZL).keep λj hj=>It.block j (((HGG.ext FG.ext).ext ZL).lt j hj).2 λe=>aD (show(80:Nat)≠9 by decide) KT.o HGG.o j e.symm hj;obtain⟨a9,n9,c9,rfl,Qe⟩:=ho.var;have HP9:=I ho))
    refine dk ?_;exact⟨k+1,_,_,_,_,I (l8 HK.o),by go_num,rfl,NX,HP9,Kq,Tv⟩
 have E':k=n1:=l8 HK.o;subst E';have HPY:=I (show Ow L=some P by unfold Ow;rw[HN1.o];exact L8);have KS:=I (show Z=(⟨p,V,P⟩,if Gf p V P=true then [121,101,115] else [115,117,109])by rw[HSY.o,HPY.o]);have⟨t5,o5⟩:=HW1S.o _ IX.o;have⟨c0,c1,c2,cf⟩:=t5.s.c;have GJ:=I (t5.point a4 n4 c4);have FM:=I (aG.set2 (z':=FB a4 n4 c4) (show aG wr base a n cap a4 n4 c4 V P from⟨o5.v,KT.mono (bR Kt.o HT.x.size)⟩) t5.s);have⟨w6,IL⟩:=j7 (wr.setCell (IM w 2) (FB a4 n4 c4));rw[<-IL]at GJ FM;go_upto_region 11 with rfl;rw[<-IL];clear IL;have⟨c0,c1,c2,cf⟩:=GJ.s.c;have HIP:=I (sL (p:=p) FM.v.ints FM.x.rats);generalize Gf p V P=B at HIP KS;go_wp2_with rfl;refine i6 HIP λw7 hx=>?_;have Uk:=I (GJ.ext hx);have Kb:=I (FM.ext hx);have⟨c0,c1,c2,cf⟩:=Uk.s.c;have⟨r0,r1,r2,rf⟩:=Uk.r.c;cases B with
 | false =>
   have⟨z0,z1,z2,HZ,XZ⟩:=Uk.FP Kb.o (p);have qq0:=@E2;exact vC
 | true =>
   have⟨z0,z1,z2,HZ,XZ⟩:=Uk.FP Kb.o (p);have qq0:=@E2;exact vC
theorem qD{s:St}{c v:List UInt8}(h:KB c=none∨dm v=none):fC s c v=(s,PA):=by
 unfold fC;rcases h with h|h
 ·rw[h]
 rw[h];cases KB c<;>rfl
theorem qE{s:St}{c v:List UInt8}{t:Nat}{x:Int}(H:KB c=some t)(G:dm v=some x):fC s c v=if 1<=t/\t<Lp s.V/\ak s.p (s.V.set t x)=true then(⟨s.p,s.V.set t x,[]⟩,R6) else(s,PA):=by
 unfold fC;rw[H,G]
theorem DJ{p:Int}{V:o7}{t:Nat}{x:Int}(h:A8 (t:Int) 1 (min (Gg p) (Lp V:Int)-1)=false):¬(1<=t/\t<Lp V/\ak p (V.set t x)=true):=by
 rintro⟨h1,h2,K⟩;obtain⟨q,rfl,_,H,G,_⟩:=ap K;rw[km]at G;have hc:=dT q H;rw[hc,G,Int.min_self]at h;unfold A8 at h;simp at h;omega
def ja(s:St)(L:List (List UInt8)):St×List UInt8:=if Lp L=2 then fC s (L[0]?.getD []) (L[1]?.getD []) else(s,fM)
def OF(h:σ:=by
 go_upto_region 6 with rfl;refine kp HK C4 λr9=>?_
 refine ta ⟨?_⟩;refine Sv ⟨?_⟩;refine UN ⟨?_⟩;refine ST k8 ?_ _;have GJ:=I (ab.ext C4);have FM:=I (aa.ext C4);generalize w2.drew=w3 at GJ FM⊢;have⟨c0,c1,c2,cf⟩:=GJ.s.c;have⟨r0,r1,r2,rf⟩:=GJ.r.c;have⟨z0,z1,z2,HZ,XZ⟩:=GJ.FP FM.o (p);go_wp2;refine GE (by simp[results,mx,go_sem,r0,r1,r2,rf,z0,z1,z2]<;>rfl) rfl ⟨D7.of (KS.o) rfl HZ.o,XZ⟩
 ):σ:=h
def Qg(h:σ:=by
 go_wp2;refine GE cr rfl ⟨D7.of (Rh.o) rfl HZ.o,XZ⟩
 ):σ:=h
theorem BW(hO:aG w base a n cap b m dap V X)(hb:base<=w.heap.size)(hn:n<=1048576)(hm:m<=1048576)(l:List UInt8)(hl:Lp l<=1048576):
 Calls prog 28 #[sess p a n cap b m dap,atr (bs l)] w λe w'=>D7 w' base e (ja ⟨p,V,X⟩ (E0 32 l))/\D4 w w':=by
 have⟨W,hW,HT,HO,⟨c0,c1,c2,cf⟩,r0,r1,r2,rf⟩:=fY p hO;have Kt:=I hb;have Gc:=I (λ(w':J)=>jz (w:=w') l 32 O);have⟨L,hL⟩:=j7 (E0 32 l);have HSY:e9 (ja ⟨p,V,X⟩ L=if Lp L=2 then fC ⟨p,V,X⟩ (L[0]?.getD []) (L[1]?.getD []) else(⟨p,V,X⟩,fM)):=I (rfl);have⟨Z,hZ⟩:=j7 (ja ⟨p,V,X⟩ L);simp only[<-hL]at Gc;rw[<-hZ]at HSY;rw[<-hL,<-hZ];have NG:=hO.v.ints.hlen;have⟨OA,hvm⟩:=hO.v.ints.ath;refine Fn NG hn hm λHVL L9 MQ=>?_;clear hL hZ;go_in
 go_upto_region 1 with rfl;rw[<-hW];clear hW;have⟨tt,F2⟩:=j7 (bs l);simp only[<-F2]at Gc;rw[<-F2];clear F2;go_wp2_with rfl;refine yf (Gc _) λw1 v ho hx=>?_;obtain⟨a1,n1,k1,rfl,HN1⟩:=ho.var;have JE:=I ho.JG;have⟨Nk,Ng⟩:=JE.ath;have HT1:=I (HT.ext hx);have HO1:=I (HO.ext hx);have⟨c0,c1,c2,cf⟩:=HT1.s.c;by_cases Pc:n1=2
 ·subst Pc;obtain⟨lb,lo,x0,rfl,Mk,Fo⟩:=JE.at (k:=0) O;have⟨lb',lo',x1,e',ZQ,FQ⟩:=JE.at (k:=1) O;obtain⟨rfl,rfl⟩:=er e';clear e';have q0:w1.cell? (IM lb lo)=some (atr (bs x0)):=by simpa[B6]using Fo 0 _ rfl
  have q1:w1.cell? (IM lb (lo+1))=some (atr (bs x1)):=by simpa[B6]using FQ 0 _ rfl
  refine Op q1 (rl (w:=w1) x0) (λ(w':J)=>nd (w:=w') x1) (show Z=fC ⟨p,V,X⟩ x0 x1 by rw[HSY.o,i7 HN1.o,Mk,ZQ];rfl) λHQ1 Rj Mm HSY2=>?_;have⟨t0,JQ⟩:=j7 (bs x0);have⟨t1,Qn⟩:=j7 (bs x1);rw[<-JQ]at q0 Rj;rw[<-Qn]at q1 HQ1;simp only[<-Qn]at Mm;have Jn:=I (λh=>HSY2.trans (qD (s:=⟨p,V,X⟩) (c:=x0) (v:=x1) h));have VK:=I (λt x h1 h2=>HSY2.trans (qE (s:=⟨p,V,X⟩) (c:=x0) (v:=x1) (t:=t) (x:=x) h1 h2));have⟨rc,NI⟩:=j7 (KB x0);have⟨ri,hri⟩:=j7 (dm x1);have aec:=I (show∀s,rc=some s->s<32 by rw[NI];exact λs h=>AK h);rw[<-NI]at Rj Jn;simp only[<-NI]at VK;simp only[<-hri]at Mm VK;rw[<-hri]at Jn;clear JQ Qn NI hri;go_wp2_with rfl;refine i6 Rj λw2 hx=>?_;have ab:=I (HT1.ext hx);have aa:=I (HO1.ext hx);have q1':=hx.o9 HQ1.o;go_wp2_with rfl;refine i6 (Mm _) λw2' e2=>?_;obtain rfl:w2=w2':=e2.symm;have⟨c0,c1,c2,cf⟩:=ab.s.c;have C4:=D4.drew w2;have HK:=I (λ(w':J) (hk:D4 w2 w')=>(⟨hk.o9 c0,hk.o9 c1,ab.x.trans hk⟩:w'.cell? (IM w 0)=some (U p)/\w'.cell? (IM w 1)=some (FB a n cap)/\D4 w w'))
  cases rc with
  | none =>
    have KS:=I (Jn (.inl rfl));obtain⟨c,hc⟩:∃c:Int,c=(((none:Option Nat).getD 0:Nat):Int):=⟨_,rfl⟩;rw[<-hc,show(none:Option Nat).isSome=false from rfl];obtain⟨xi,hxi⟩:∃c:Int,c=ri.getD 0:=⟨_,rfl⟩;obtain⟨xb,S8⟩:∃c:Bool,c=ri.isSome:=⟨_,rfl⟩;rw[<-hxi,<-S8];clear hc hxi S8;exact OF
  | some t =>
    have ht32:=aec.o t rfl;obtain⟨c,hc⟩:∃c:Int,c=(((some t).getD 0:Nat):Int):=⟨_,rfl⟩;have HC:e9 (c=(t:Int)):=hc;rw[<-hc,show(some t).isSome=true from rfl];cases ri with
    | none =>
      have KS:=I (Jn (.inr rfl));clear hc;rw[show(none:Option Int).isSome=false from rfl,show(none:Option Int).getD 0=0 from rfl];exact OF
    | some x =>
      have HY:=I (VK t x rfl rfl);rw[hc,show(((some t).getD 0:Nat):Int)=(t:Int)from rfl,show(some x).isSome=true from rfl,show(some x).getD 0=x from rfl];have Qh:=I (λw'=>ev p w');have⟨N,hN⟩:=j7 (Gg p);have HNI:=I (show A8 (t:Int) 1 (min N (n:Int)-1)=false->¬(1<=t/\t<Lp V/\ak p (V.set t x)=true)by
       intro h;rw[hN,<-HVL.o]at h;exact DJ h)
      have hNb:0<=N/\N<=32:=by
       rw[hN];unfold Gg;split
       ·next h =>
        unfold A8 at h;simp at h;have h5:p.toNat<=5:=O;have:∀q:Fin 6,(2:Int)^q.val<=32/\(0:Int)<=2^q.val:=by decide
        have:=this ⟨p.toNat,by omega⟩;simp only at this;exact⟨this.2,this.1⟩
       omega
      simp only[<-hN]at Qh;have hmw:=dc (min N (n:Int)-1);have⟨hi,hhi⟩:=j7 (min N (n:Int));rw[<-hhi]at hmw HNI;have hmin:=hhi.symm;have⟨B,hB⟩:=j7 (A8 (t:Int) 1 (hi-1));have HWI:=I (λw'=>av (t:Int) 1 (hi-1) w');simp only[<-hB]at HWI HNI;have Hy:=I (show B=true->1<=t/\(t:Int)<n by
       rw[hB];unfold A8;intro h;simp at h;omega)
      clear hc hN hhi hB;go_upto_region 6 with rfl;refine kp HK C4 λr9=>?_
      refine ks ⟨?_⟩;refine Mp ⟨?_⟩;refine tk 7 ?_;refine tk 8 ?_;refine tk 9 ?_;refine tk 10 ?_;refine tk 12 ?_;refine tk 13 ?_;refine tk 14 ?_;refine tk 15 ?_;refine rd 11 λK hK=>?_;go_simp
      (go_at_call 83;refine(Qh _).mono ?_;rintro e w5 ⟨rfl,rfl⟩)
      go_wp2_with rfl;refine KO (HK _ C4) λr9=>?_;refine tk 16 ?_;refine tk 17 ?_;refine rd 18 λK hK=>?_;go_simp
      (go_at_call 82;refine(HWI _).mono ?_;rintro e w5 ⟨rfl,rfl⟩)
      go_wp2_with rfl;refine KO (HK _ C4) λr9=>?_;refine tk 19 ?_;refine tk 20 ?_;refine ST k8 ?_ _;have GJ:=I (ab.ext C4);have FM:=I (aa.ext C4);generalize w2.drew=w3 at GJ FM⊢;have⟨c0,c1,c2,cf⟩:=GJ.s.c;cases B with
      | false =>
        have⟨r0,r1,r2,rf⟩:=GJ.r.c;have KS:=I (HY.trans (f8 (HNI rfl)));have⟨z0,z1,z2,HZ,XZ⟩:=GJ.FP FM.o (p);have qq0:=@mx;exact vC
      | true =>
        have⟨Qn,Y9⟩:=Hy.o rfl;have HCL:=I (At (w:=w3) (p:=p) FM.v.ints FM.x.rats L9.o MQ);go_wp2_with rfl;refine HCL.mono ?_;rintro e w4 ⟨⟨a4,n4,c4,b4,m4,d4,rfl,Jd⟩,E4⟩;refine y5 (show C6 (w4.alloc (SH #[U p,FB a4 n4 c4,FB b4 m4 d4] 34)) w4 (U p) (FB a4 n4 c4) (FB b4 m4 d4)from LE rfl) ((GJ.ext E4).ext (D4.alloc w4 (SH #[U p,FB a4 n4 c4,FB b4 m4 d4] 34))) ((FM.ext E4).ext (D4.alloc w4 (SH #[U p,FB a4 n4 c4,FB b4 m4 d4] 34))) (Jd.v.ext (D4.alloc w4 (SH #[U p,FB a4 n4 c4,FB b4 m4 d4] 34))) (show w3.heap.size<=w4.heap.size from E4.size) (E4.trans (D4.alloc w4 (SH #[U p,FB a4 n4 c4,FB b4 m4 d4] 34))) λQy L7 Fj H HGE Qv=>?_;have⟨w5,Gz⟩:=j7 (w4.alloc (SH #[U p,FB a4 n4 c4,FB b4 m4 d4] 34));rw[<-Gz]at Qy L7 Fj H Qv;go_upto_region 9 with rfl;rw[<-Gz];clear Gz;generalize w4.heap.size=G at Qy HGE⊢;have Qq:n4=n:=by rw[<-H.ints.hlen,HVL.o]
        subst Qq;obtain⟨gv,rfl,KF,ZA,LW⟩:=H.block (show t<n4 by omega);have⟨hcv,Nx⟩:=H.ints.ath;have hft:=ZA t;have PL:=H.IJ.2.2.2 t O;have⟨d0,d1,d2,df⟩:=Qy.c;have hgG:G≠gv:=λe=>by
         have:=Qy.o;rw[e]at this;exact aq H.o this FS rfl
        have RL:e9 (D4 w3 ((w5.setCell (IM gv t) (U x)).setCell (IM G 2) d9)):=(Qv.store (b:=gv) t KF _).store (b:=G) 2 HGE.o _;have Qx:e9 (C6 ((w5.setCell (IM gv t) (U x)).setCell (IM G 2) d9) G (U p) (GT gv n4 c4) d9):=C6.Vk (show C6 (w5.setCell (IM gv t) (U x)) G _ _ _ from(If w5 (IM gv t) G _ hgG).trans Qy) _;have HV7:e9 (y9 ((w5.setCell (IM gv t) (U x)).setCell (IM G 2) d9) w3 (GT gv n4 c4) (V.set t x)):=bg (H.set t x) ((If w5 (IM gv t) G _ hgG).trans Qy) FS;have VC:(w5.setCell (IM gv t) (U x)).cell? (IM G 2)=some (FB b4 m4 d4):=(C6.c ((If w5 (IM gv t) G _ hgG).trans Qy)).2.2.1;have hdf:∀k,(w5.setCell (IM gv t) (U x)).frozen? (IM G k)=false:=(C6.c ((If w5 (IM gv t) G _ hgG).trans Qy)).2.2.2;have⟨w7,Ie⟩:=j7 ((w5.setCell (IM gv t) (U x)).setCell (IM G 2) d9);rw[<-Ie]at RL Qx HV7;have Sd:=I (bV (w:=w7) (p:=p) HV7.ints);have⟨ok,D9⟩:=j7 (ak p (V.set t x));rw[<-D9]at Sd;have Rh:=I (show Z=if ok=true then(⟨p,V.set t x,[]⟩,R6) else(⟨p,V,X⟩,PA)by
         rw[HY.o,D9];by_cases h:ak p (V.set t x)=true
         ·rw[i7 ⟨Qn,by rw[HVL.o];omega,h⟩,i7 h]
         rw[f8 (λq=>h q.2.2),f8 h])
        go_upto_region 11 with rfl;rw[<-Ie];clear Ie D9;have⟨d0,d1,d2,df⟩:=Qx.c;go_wp2_with rfl;refine i6 Sd λw8 hx=>?_;refine Op (GJ.ext (RL.trans hx)) (FM.ext (RL.trans hx)) (HV7.ext hx) (show C6 w8 G _ _ _ from hx.blk Qx) λQa Nt HV8 Un=>?_;have⟨d0,d1,d2,df⟩:=Un.c;have⟨c0,c1,c2,cf⟩:=Qa.s.c;have⟨r0,r1,r2,rf⟩:=Qa.r.c;have J':=I (bR Kt.o GJ.x.size);cases ok with
        | false =>
          have⟨z0,z1,z2,HZ,XZ⟩:=Qa.FP Nt.o (p);have qq0:=@mx;exact Qg
        | true =>
          have Ip:e9 (aG w8 base (some (IM gv 0)) n4 c4 none 0 0 (V.set t x) []):=I ⟨HV8.mono J'.o,og⟩;have⟨z0,z1,z2,HZ,XZ⟩:=Qa.FP Ip.o (p);have qq0:=@mx;exact Qg
 have hne:((n1:Int) != 2)=true:=t8;have KS:=I (show Z=(⟨p,V,X⟩,fM)by rw[HSY.o,f8 (by rw[HN1.o];exact Pc)]);have⟨r0,r1,r2,rf⟩:=HT1.r.c;have⟨z0,z1,z2,HZ,XZ⟩:=HT1.FP HO1.o (p);have qq0:=@mx;exact vC
end
