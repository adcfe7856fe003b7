import Derived.Test.YtooiaklfmodcbaaGreatDoorRtAllG36
import Derived.OwnWalk
import Derived.Lib.Replace
set_option linter.all false
set_option maxHeartbeats 6000000
set_option maxRecDepth 100000
namespace Go.Proofs.YtooiaklfmodcbaaGreatDoor
open Ending renaming returned->ar
open List renaming length->JL
open Obj renaming cells->QD
open Value renaming slice->GI,bool->bl,string->aE,pointer->aP
open Go.Proofs.Tryz Go.RowKit
variable{σ:Prop}
section
def Sd(h:σ:=by simp[results,results42,go_sem]<;>rfl):σ:=h
def u'(h:σ:=by simp[results,results59,go_sem]<;>rfl):σ:=h
def sg(h:σ:=by simp[results,results57,go_sem]<;>rfl):σ:=h
def Qf(h:σ:=by simp[results,results41,go_sem]<;>rfl):σ:=h
def Ng{P Q:Prop}(q:Q)(h:Q->P:=by intro q;go_roundg (gk-1);exact q;have:=HB.o;omega):P:=h q
def d'{P Q:Prop}(q:Q)(h:Q->P:=by intro q;go_roundg (g1-1);exact q;have:=HA.o;omega):P:=h q
variable{n:Nat}{a:l9}{w:J}{V:o3}
def Gz(k:Nat)(V:o3)(a b:Nat):Bool :=
 if k=1 then decide (a &&& b=a)&&decide (V[b]?.getD 0<V[a]?.getD 0)
 else if k=2 then decide (a &&& b=0)&&decide (V[a ||| b]?.getD 0<V[a]?.getD 0+V[b]?.getD 0)
 else decide (V[a ||| b]?.getD 0+V[a &&& b]?.getD 0<V[a]?.getD 0+V[b]?.getD 0)
def jQ(f:Nat->Nat->Bool)(a m:Nat):Bool:=(List.range m).all λb=>!f a b
def GH(f:Nat->Nat->Bool)(n m:Nat):Bool:=(List.range m).all λa=>jQ f a n
theorem rH(f:Nat->Nat->Bool)(a m:Nat):jQ f a (m+1)=(jQ f a m&&!f a m):=by unfold jQ;rw[rN,tn];simp
theorem uv(f:Nat->Nat->Bool)(n m:Nat):GH f n (m+1)=(GH f n m&&jQ f m n):=by unfold GH;rw[rN,tn];simp
theorem xq{f:Nat->Nat->Bool}{a b:Nat}(h:f a b=true)(E:a<n)(hb:b<n):GH f n n=false:=by
 rw[Wg];intro G;have:=gy.1 (gy.1 G a (sj.2 E)) b (sj.2 hb);rw[h]at this;cases this
def dd(k:Nat)(p:Int)(V:o3):Bool:=ak p V&&GH (Gz k V) (JL V) V.length
theorem sK:∀a b:Fin 32,bits .and .i64 ((a.val:Nat):Int) ((b.val:Nat):Int)=((a.val &&& b.val:Nat):Int)/\bits .or .i64 ((a.val:Nat):Int) ((b.val:Nat):Int)=((a.val ||| b.val:Nat):Int)/\(bits .andNot .i64 ((a.val:Nat):Int) ((b.val:Nat):Int) == 0)=decide (a.val &&& b.val=a.val):=by decide +kernel
theorem eU{u v:arQ}{a b:Bool}(h:a=b):ar (.tuple #[u,v,bl a])=ar (.tuple #[u,v,bl b]):=by rw[h]
structure p'(w:J)(V:o3)(n vb vo x y:Nat):Prop where
 c1:w.cell? (O vb (vo+x))=some (U (V[x]?.getD 0))
 c2:w.cell? (O vb (vo+y))=some (U (V[y]?.getD 0))
 c3:w.cell? ⟨vb,vo+(x ||| y),none⟩=some (U (V[x ||| y]?.getD 0))
 c4:w.cell? ⟨vb,vo+(x &&& y),none⟩=some (U (V[x &&& y]?.getD 0))
 u:x ||| y<n
 o:x &&& y<n
theorem XL{q:Int}{cap:Nat}(h:d9 w a n cap V)(hg:ak q V=true){x y:Nat}(hx:x<n)(K:y<n):
 n<=32/\(∀k:Nat,-500<=V[k]?.getD 0/\V[k]?.getD 0<=500)/\∃H G,a=some (O H G)/\p' w V n H G x y:=by
 obtain⟨m,D4,Hh,JF,QE,_,Mx⟩:=ap hg;have hc:=bp m JF;have Q:n=cN m:=by rw[<-QE,h.hlen]
 have Z:x ||| y<n:=by rw[Q]at hx K⊢;exact aC hx K
 have ho:x &&& y<n:=Ru Nat.and_le_left hx;have⟨H,G,e,E⟩:=h.cell x hx;exact⟨by omega,λi=>dp Mx i,H,G,e,E _ hx,E _ K,E _ Z,E _ ho,Z,ho⟩
theorem wj:NE prog 221:=cR func221 j8 j8
theorem Cj:NE prog 222:=cR func222 j8 j8
theorem AC:NE prog 223:=cR func223 j8 j8
section
variable{w:J}{p:Int}{a:l9}{n cap bm:Nat}{V:o3}
theorem yQ(h:d9 w a n cap V)(hg:ak p V=true)(x y:Nat)(hx:x<n)(hy:y<n)(hb:w.heap[bm]?=some (QD #[U p,GI a n cap] 31 (0,0))):
 f8 221 #[U x,U y,aP (some (O bm 0))] w (bl (Gz 1 V x y)):=by
 obtain⟨hn,hv,Z,K,rfl,f⟩:=XL h hg hx hy;have g1:=aH hb;have⟨z,hz⟩:=e9 (Gz 1 V x y);have e:=(sK ⟨x,by omega⟩ ⟨y,by omega⟩).2.2;have G:b9 (z=(decide (x &&& y=x)&&decide (V[y]?.getD 0<V[x]?.getD 0))):=hz;simp only at e;rw[<-e]at G;rw[<-hz];have⟨t,H⟩:=e9 (bits .andNot .i64 ((x:Nat):Int) ((y:Nat):Int));have c1:=f.c1;have c2:=f.c2;have⟨v1,JD⟩:=e9 (V[x]?.getD 0);have⟨v2,MK⟩:=e9 (V[y]?.getD 0);rw[<-JD]at G c1;rw[<-MK]at G c2;rw[<-H]at G;have HK:=I (λ(w':J) (E:C7 w w')=>(⟨E.o6 g1,E.o6 c1,E.o6 c2,E⟩:w'.cell? (O bm 1)=some (GI (some (O Z K)) n cap)/\w'.cell? (O Z (K+x))=some (U v1)/\w'.cell? (O Z (K+y))=some (U v2)/\C7 w w'));clear h hv f hz e JD MK hb g1 c1 c2 hg;cases Jq:(t == 0)
 ·rw[Jq]at G;rw[H]at Jq;clear H;unfold f8;go_in
  go_upto_region 1 with fail;have E:=C7.drew w;refine mc HK E λo9=>?_
  refine vA ⟨?_⟩;refine Xd ⟨?_⟩;refine Pi j8 ?_ _;go_wp2;go_ret;exact⟨ag (by rw[G.o];rfl),E⟩
 rw[Jq]at G;rw[H]at Jq;clear H;have hx':=Rd x n;have hy':=Rd y n;have B8:=ST x;have JC:=ST y;unfold f8;go_in
 go_upto_region 1 with fail;have E:=C7.drew w;refine mc HK E λo9=>?_
 refine vA ⟨?_⟩;refine Xd ⟨?_⟩;refine Pi j8 ?_ _;go_wp2;go_ret;exact⟨ag (by rw[G.o];simp),E⟩
def Tf(h:σ:=by
 (try unfold f8);go_in
 go_upto_region 1 with fail;have hk:C7 w w.drew:=C7.drew w;refine mc HK hk λo9=>?_
 refine vA ⟨?_⟩;refine LA ⟨?_⟩;refine Wj ⟨?_⟩;refine Pi j8 ?_ _;go_wp2;go_ret;exact⟨ag (by rw[HZ2.o]),hk⟩
 ):σ:=h
theorem VU(h:d9 w a n cap V)(hg:ak p V=true)(x y:Nat)(hx:x<n)(hy:y<n)(hb:w.heap[bm]?=some (QD #[U p,GI a n cap] 31 (0,0))):
 f8 222 #[U x,U y,aP (some (O bm 0))] w (bl (Gz 2 V x y)):=by
 obtain⟨hn,K,H,G,rfl,f⟩:=XL h hg hx hy;have g1:=aH hb;have⟨z,hz⟩:=e9 (Gz 2 V x y);have e:=sK ⟨x,by omega⟩ ⟨y,by omega⟩;have Z:=e.1;have e2:=e.2.1;simp only at Z e2;have E:b9 (z=(decide (x &&& y=0)&&decide (V[x ||| y]?.getD 0<V[x]?.getD 0+V[y]?.getD 0))):=hz;rw[<-hz];have c1:=f.c1;have c2:=f.c2;have c3:=f.c3;have hu:=f.u;have b1:=K x;have b2:=K y;have⟨v1,JD⟩:=e9 (V[x]?.getD 0);have⟨v2,MK⟩:=e9 (V[y]?.getD 0);have⟨v3,Tg⟩:=e9 (V[x ||| y]?.getD 0);rw[<-JD]at E c1 b1;rw[<-MK]at E c2 b2;rw[<-Tg]at E c3;generalize x ||| y=u at e2 c3 hu
 have hs:=dk (v1+v2);have HK:=I (λ(w':J) (hk:C7 w w')=>(⟨hk.o6 g1,hk.o6 c1,hk.o6 c2,hk.o6 c3,hk⟩:w'.cell? (O bm 1)=some (GI (some (O H G)) n cap)/\w'.cell? (O H (G+x))=some (U v1)/\w'.cell? (O H (G+y))=some (U v2)/\w'.cell? (O H (G+u))=some (U v3)/\C7 w w'));clear h K f hz e JD MK Tg hb g1 c1 c2 c3 hg b1 b2;by_cases Jq:x &&& y=0
 ·have HZ2:=I (show z=decide (v3<v1+v2)by rw[E.o,Jq];rfl);rw[Jq]at Z;have hx':=Rd x n;have hy':=Rd y n;have Of:=Rd u n;have B8:=ST x;have JC:=ST y;have KZ:=ST u;clear Jq;exact Tf
 have HZ2:=I (show z=false by rw[E.o,Ok Jq];rfl);have e3:(((x &&& y:Nat):Int) == 0)=false:=by simp only[nx];omega
 generalize ((x &&& y:Nat):Int)=o at Z e3;clear Jq;exact Tf
theorem Cn(h:d9 w a n cap V)(hg:ak p V=true)(x y:Nat)(hx:x<n)(hy:y<n)(hb:w.heap[bm]?=some (QD #[U p,GI a n cap] 31 (0,0))):
 f8 223 #[U x,U y,aP (some (O bm 0))] w (bl (Gz 3 V x y)):=by
 obtain⟨hn,Z,H,G,rfl,f⟩:=XL h hg hx hy;have g1:=aH hb;have⟨z,hz⟩:=e9 (Gz 3 V x y);have e:=sK ⟨x,by omega⟩ ⟨y,by omega⟩;have e1:=e.1;have e2:=e.2.1;simp only at e1 e2;have HZ:b9 (z=decide (V[x ||| y]?.getD 0+V[x &&& y]?.getD 0<V[x]?.getD 0+V[y]?.getD 0)):=hz;rw[<-hz];have c1:=f.c1;have c2:=f.c2;have c3:=f.c3;have c4:=f.c4;have hu:=f.u;have ho:=f.o;have b1:=Z x;have b2:=Z y;have b3:=Z (x ||| y);have b4:=Z (x &&& y);have⟨v1,JD⟩:=e9 (V[x]?.getD 0);have⟨v2,MK⟩:=e9 (V[y]?.getD 0);have⟨v3,Tg⟩:=e9 (V[x ||| y]?.getD 0);have⟨v4,K⟩:=e9 (V[x &&& y]?.getD 0);rw[<-JD]at HZ c1 b1;rw[<-MK]at HZ c2 b2;rw[<-Tg]at HZ c3 b3;rw[<-K]at HZ c4 b4;generalize x ||| y=u at e2 c3 hu
 generalize x &&& y=o at e1 c4 ho;have hs:=dk (v1+v2);have Nc:=dk (v3+v4);have HK:=I (λ(w':J) (E:C7 w w')=>(⟨E.o6 g1,E.o6 c1,E.o6 c2,E.o6 c3,E.o6 c4,E⟩:w'.cell? (O bm 1)=some (GI (some (O H G)) n cap)/\w'.cell? (O H (G+x))=some (U v1)/\w'.cell? (O H (G+y))=some (U v2)/\w'.cell? (O H (G+u))=some (U v3)/\w'.cell? (O H (G+o))=some (U v4)/\C7 w w'));have hx':=Rd x n;have hy':=Rd y n;have Of:=Rd u n;have ho':=Rd o n;have B8:=ST x;have JC:=ST y;have KZ:=ST u;have ho0:=ST o;clear h Z f hz e JD MK Tg K hb g1 c1 c2 c3 c4 hg b1 b2 b3 b4;unfold f8;go_in
 go_upto_region 1 with fail;have E:=C7.drew w;refine mc HK E λo9=>?_
 refine vA ⟨?_⟩;refine LA ⟨?_⟩;refine Wj ⟨?_⟩;refine tk 26 ?_;refine tk 27 ?_;refine Pi j8 ?_ _;go_wp2;go_ret;exact⟨ag (by rw[HZ.o]),E⟩
def sn(h:σ:=by
 have Rb:x=n:=by have:=HA.o;omega
 subst Rb;go_wp2
 go_ret3
 exact⟨⟨_,_,eU (by rw[HZ.o,Qe.o];rfl)⟩,HX.trans XR.o⟩
 ):σ:=h
def Jo(h:σ:=by
 go_wp2_with fail;refine d' ?_;exact⟨x+1,I (k8 HA.o),by go_num,aeQ,XS⟩
 ):σ:=h
theorem tf{E:FuncId}{ca:Array arQ}{f:Nat->Nat->Bool}(h:d9 w a n cap V)(hg:NE prog E)
 (hf:ak p V=true->∀x y:Nat,x<n->y<n->∀w1,C7 w w1->Calls prog E (#[U x,U y]++ca) w1 λe w2=>e=ar (bl (f x y))/\C7 w1 w2) :
 Calls prog 220 #[FS p a n cap,.func (.func E) #[] ca] w λe w'=>(∃x y:Int,e=ar (.tuple #[U x,U y,bl (ak p V&&!GH f n n)]))/\C7 w w':=by
 have⟨W,hW⟩:=e9 (w.alloc (QD #[U p,GI a n cap] 31));have hX:C7 w W:=by rw[hW];exact WU
 have k0:W.cell? (O w 0)=some (U p):=by rw[hW];simp
 have k1:W.cell? (O w 1)=some (GI a n cap):=by rw[hW];simp
 have K1:=I k1;have HX:=I hX;have⟨r8,r9⟩:=h.aq9;have Z:=I (bV (p:=p) (h.ext hX));have Tr:∀(args:Array arQ) (w:J),(callFunc E args).run prog w=.ok (.enter E args) w:=hg;have HF:=I hf;have⟨z,HZ⟩:=GT ((ak p V&&!GH f n n));rw[<-HZ.o];clear h hX hf hg;go_in
 go_upto_region 1 with fail;rw[<-hW];clear hW;cases K:ak p V
 ·rw[K]at Z HZ;clear K;go_wp2_with fail;refine i7 Z λw1 hx=>?_;have T2:=I (HX.trans hx);go_wp2
  go_ret3
  exact⟨⟨_,_,eU HZ.symm⟩,T2⟩
 rw[K]at Z HZ;have HG:=I (HF K);clear K;go_wp2_with fail;refine i7 Z λw1 hx=>?_;have T2:=I hx;have p1:=hx.o6 K1.o;go_wp2
 go_loopg [15] n (λgk aa wr=>∃x:Nat,b9 (gk+x=n)/\aa=U x/\b9 (GH f n x=true)/\b9 (C7 W wr))
 ·exact da
 rename Nat=>g1;rename J=>y9;obtain⟨x,HA,rfl,Qe,XR⟩:=hrel;by_cases G:x<n
 ·have q1:=XR.o6 K1.o;go_wp2
  go_loopg [21] n (λgk bb wr=>∃y:Nat,b9 (gk+y=n)/\bb=U y/\b9 (jQ f x y=true)/\b9 (C7 W wr))
  ·exact⟨0,I j0,rfl,I rfl,XR⟩
  obtain⟨y,HB,rfl,LJ,XS⟩:=hrel;by_cases H:y<n
  ·have HC:=I (HG x y G H wr (HX.trans XS));cases hb:f x y
   ·rw[hb]at HC;have aeP:=I (show jQ f x (y+1)=true by rw[rH,LJ.o,hb];rfl);clear hb;go_wp2_with fail;refine i7 HC λw3 hx=>?_;have XT:=I (XS.trans hx);go_wp2_with fail;refine Ng ?_;exact⟨y+1,I (k8 HB.o),by go_num,aeP,XT⟩
   rw[hb]at HC;have H7:b9 (GH f n n=false):=xq hb G H;clear hb;go_wp2_with fail;refine i7 HC λw3 hx=>?_;have XT:=I (HX.trans (XS.trans hx));go_wp2
   go_ret3
   exact⟨⟨_,_,eU (by rw[HZ.o,H7.o];rfl)⟩,XT⟩
  have MP:y=n:=k8 HB.o;subst MP;have aeQ:=I (show GH f y (x+1)=true by rw[uv,Qe.o,LJ.o];rfl);exact Jo
 exact sn
def V5(h:σ:=by
 have⟨G,hG⟩:=e9 (ak p V);simp only[<-hG]at HP HK HV;clear hG;cases G
 all_goals
  cases y1
  all_goals
   (try unfold f8);go_in
   go_wp2_with fail;refine HK.mono ?_;rintro e w1 ⟨⟨x,y,rfl⟩,hx⟩;have X1:=I (HX.trans hx);have c0:w1.cell? (O w.heap.size 0)=some (U p):=hx.o6 j7;have c1:w1.cell? (O w.heap.size 1)=some (GI a n cap):=hx.o6 j7;clear hx;go_wp2_with fail;refine(HV _ X1).mono ?_;rintro e w2 ⟨rfl,hx⟩;have X2:=I (X1.trans hx);clear hx;go_wp2;go_ret;exact⟨ag (by rw[HP.o];rfl),X2⟩
 ):σ:=h
def R6(h:σ:=by
 intro w' hx;have HI:=I (h.ext hx);have HX:=I (C7.alloc w' (QD #[U p,GI a n cap] 31));have HF:=I (tf (p:=p) (ca:=#[aP (some (O w'.heap.size 0))]) (HI.ext HX) qq0 (λhg x y A' hy w1 Hn=>qq1 ((HI.ext HX).ext Hn) hg x y A' hy (Hn.blk (IO rfl))));clear hx h;(try unfold f8);go_in
 go_wp2_with fail;refine HF.mono ?_;rintro e w1 ⟨⟨x,y,rfl⟩,hx⟩;have X1:=I (HX.trans hx);clear hx;go_wp2
 go_ret3
 exact⟨⟨_,_,eU rfl⟩,X1⟩
 ):σ:=h
theorem AP(h:d9 w a n cap V):f8 72 #[FS p a n cap] w (bl (dd 1 p V)):=by
 have K:=I h.hlen;have E:∀w',C7 w w'->Calls prog 150 #[FS p a n cap] w' λe w2=>(∃x y:Int,e=ar (.tuple #[.int .i64 x,.int .i64 y,bl (ak p V&&!GH (Gz 1 V) n n)]))/\C7 w' w2:=by
  have qq0:=@wj;have qq1:=@yQ;exact R6
 have HX:=I (C7.alloc w (QD #[.int .i64 p,GI a n cap] 31));refine t8 (E _ HX) (λ(w':J) (hx:C7 w w')=>bV (p:=p) (h.ext hx)) (show dd 1 p V=(ak p V&&GH (Gz 1 V) n n)by unfold dd;rw[K.o]) λHK HV HP=>?_;have⟨z,hz⟩:=e9 (dd 1 p V);rw[<-hz]at HP⊢;have⟨y1,H⟩:=e9 (GH (Gz 1 V) n n);rw[<-H]at HK HP;clear E h hz H;exact V5
theorem Z'(h:d9 w a n cap V):f8 73 #[FS p a n cap] w (bl (dd 2 p V)):=by
 have K:=I h.hlen;have E:∀w',C7 w w'->Calls prog 151 #[FS p a n cap] w' λe w2=>(∃x y:Int,e=ar (.tuple #[.int .i64 x,.int .i64 y,bl (ak p V&&!GH (Gz 2 V) n n)]))/\C7 w' w2:=by
  have qq0:=@Cj;have qq1:=@VU;exact R6
 have HX:=I (C7.alloc w (QD #[.int .i64 p,GI a n cap] 31));refine t8 (E _ HX) (λ(w':J) (hx:C7 w w')=>bV (p:=p) (h.ext hx)) (show dd 2 p V=(ak p V&&GH (Gz 2 V) n n)by unfold dd;rw[K.o]) λHK HV HP=>?_;have⟨z,hz⟩:=e9 (dd 2 p V);rw[<-hz]at HP⊢;have⟨y1,H⟩:=e9 (GH (Gz 2 V) n n);rw[<-H]at HK HP;clear E h hz H;exact V5
theorem Co(h:d9 w a n cap V):f8 74 #[FS p a n cap] w (bl (dd 3 p V)):=by
 have K:=I h.hlen;have E:∀w',C7 w w'->Calls prog 152 #[FS p a n cap] w' λe w2=>(∃x y:Int,e=ar (.tuple #[.int .i64 x,.int .i64 y,bl (ak p V&&!GH (Gz 3 V) n n)]))/\C7 w' w2:=by
  have qq0:=@AC;have qq1:=@Cn;exact R6
 have HX:=I (C7.alloc w (QD #[.int .i64 p,GI a n cap] 31));refine t8 (E _ HX) (λ(w':J) (hx:C7 w w')=>bV (p:=p) (h.ext hx)) (show dd 3 p V=(ak p V&&GH (Gz 3 V) n n)by unfold dd;rw[K.o]) λHK HV HP=>?_;have⟨z,hz⟩:=e9 (dd 3 p V);rw[<-hz]at HP⊢;have⟨y1,H⟩:=e9 (GH (Gz 3 V) n n);rw[<-H]at HK HP;clear E h hz H;exact V5
end
def S'(a b k:Nat):Bool:=(List.range k).all λj=>!(M2 (a:Int) j&&!M2 (b:Int) j)
theorem DE(a b k:Nat):S' a b (k+1)=(S' a b k&&!(M2 (a:Int) k&&!M2 (b:Int) k)):=by unfold S';rw[rN,tn];simp
theorem Zy:∀a b:Fin 32,S' a.val b.val 5=decide (a.val &&& b.val=a.val):=by decide +kernel
theorem Zx{a b k:Nat}(E:k<5)(H:M2 (a:Int) k=true)(G:M2 (b:Int) k=false):S' a b 5=false:=by
 rw[Wg];intro K;have:=gy.1 K k (sj.2 E);rw[H,G]at this;cases this
theorem Bs(a b:Nat)(ha:a<32)(hb:b<32)(w:J):
 Calls prog 307 #[U a,U b] w λe w'=>e=ar (bl (decide (a &&& b=a)))/\w=w':=by
 have D7:A4 (a:Int) 0 31=true:=by unfold A4;simp;omega
 have JJ:A4 (b:Int) 0 31=true:=by unfold A4;simp;omega
 have Z:=I (io (a:Int) w);have H:=I (io (b:Int) w);rw[D7]at Z;rw[JJ]at H;have E:=I (Zy ⟨a,ha⟩ ⟨b,hb⟩);have⟨z,hz⟩:=e9 (decide (a &&& b=a));simp only at E;rw[<-hz]at E;rw[<-hz];clear D7 JJ hz;go_in
 go_wp2
 go_loopg [5] 5 (λgk i wr=>∃(k:Nat),b9 (gk+k=5)/\i=U k/\b9 (S' a b k=true)/\wr=w)
 ·exact yo
 obtain⟨k,HK,rfl,K,rfl⟩:=hrel;by_cases G:k<5
 ·have HA:=I (dE (a:Int) k j0 j0);have HB:=I (dE (b:Int) k j0 j0);cases E6:M2 (a:Int) k
  all_goals
   cases Ew:M2 (b:Int) k
  all_goals
   rw[E6]at HA;rw[Ew]at HB;go_wp2_with fail;refine(bE (a:Int) (k:Int) _ j0).mono ?_;rw[HA.o];rintro e w3 ⟨rfl,rfl⟩;go_wp2_with fail
   try(refine(bE (b:Int) (k:Int) _ j0).mono ?_;rw[HB.o];rintro e w3 ⟨rfl,rfl⟩;go_wp2_with fail)
  all_goals first
   | (go_ret;exact⟨ag (by rw[<-E.o];exact(Zx G E6 Ew).symm),rfl⟩)
   | (refine er ?_;exact⟨k+1,I (k8 HK.o),by go_num,I (by rw[DE,K.o,E6,Ew];rfl),rfl⟩)
 have MN:k=5:=k8 HK.o;subst MN;go_wp2_with fail;refine Z.mono ?_;rintro e w3 ⟨rfl,rfl⟩;go_wp2_with fail;refine H.mono ?_;rintro e w3 ⟨rfl,rfl⟩;go_wp2;go_ret;exact⟨ag (by rw[<-E.o,K.o]),rfl⟩
def SR(w':J)(g:Nat)(vb vo n cap:Nat)(x y u o:Nat)(v1 v2 v3 v4:Int):Prop :=
 w'.cell? (O g 1)=some (GI (some (O vb vo)) n cap)/\w'.cell? (O vb (vo+x))=some (U v1)/\w'.cell? (O vb (vo+y))=some (U v2)/\w'.cell? (O vb (vo+u))=some (U v3)/\w'.cell? (O vb (vo+o))=some (U v4)
def Th(h:σ:=by
 refine Pi j8 ?_ _;go_wp2;go_meet;exact⟨by rw[HQ2.o];simp,I (XS.trans B6)⟩
 ):σ:=h
def p3(h:σ:=by
 refine Pi j8 ?_ _;go_wp2;go_meet;exact⟨by rw[HQ2.o];rfl,I (XS.trans B6)⟩
 ):σ:=h
theorem ZF{p:Int}{cap:Nat}(h:d9 w a n cap V)(k:Nat)(G:k=1∨k=2∨k=3):
 Calls prog 263 #[FS p a n cap,.int .i64 (k:Int)] w λe w'=>(∃(x y:Int),e=.returned (.tuple #[.int .i64 x,.int .i64 y,.bool (ak p V&&!GH (Gz k V) n n)]))/\C7 w w':=by
 obtain⟨W,hW⟩:=e9 (w.alloc (.cells #[.int .i64 p,.slice a n cap] 31));have hX:C7 w W:=by rw[hW];exact C7.alloc _ _
 have k0:W.cell? ⟨w.heap.size,0,none⟩=some (.int .i64 p):=by rw[hW];simp
 have k1:W.cell? ⟨w.heap.size,1,none⟩=some (.slice a n cap):=by rw[hW];simp
 have HI:=I (h.ext hX);have HX:=I hX;have HL:=I h.hlen;have r8:=h.r8;have r9:=h.r9;have HV:=I (λ(w':J) (hx:C7 W w')=>bY (p:=p) (HI.o.ext hx));obtain⟨z,hz⟩:=e9 ((ak p V&&!GH (Gz k V) n n));rw[<-hz];have HZ:=I hz;have LN:=I G;clear hz h hX G;go_in
 go_upto_region 2 with fail;rw[<-hW];clear hW;cases hg:ak p V
 ·rw[hg]at HV HZ;clear hg;by_cases PB:0<n
  ·go_wp2_with fail
   go_loopg [8] 1 (λgk aa wr=>aa=.int .i64 0/\wr=W)
   case atStart=>exact⟨rfl,rfl⟩
   obtain⟨rfl,rfl⟩:=hrel;go_wp2_with fail;refine IR (HV.o _ (C7.refl _)) λw1 A'=>?_;have T2:=I A';clear A';go_wp2_with fail
   go_ret3
   exact⟨⟨_,_,eU (by rw[HZ.o];rfl)⟩,HX.o.trans T2.o⟩
  have hn:n=0:=j0;subst hn;go_wp2_with fail
  go_loopg [8] 1 (λgk aa wr=>aa=.int .i64 0/\wr=W)
  case atStart=>exact⟨rfl,rfl⟩
  obtain⟨rfl,rfl⟩:=hrel;go_wp2_with fail
  go_ret3
  exact⟨⟨_,_,eU (by rw[HZ.o];rfl)⟩,HX.o⟩
 rw[hg]at HV HZ;have HGK:=I hg;have K1:=I k1;clear hg;go_wp2_with fail
 go_loopg [8] n (λgk aa wr=>∃a:Nat,b9 (gk+a=n)/\aa=.int .i64 (a:Int)/\b9 (GH (Gz k V) n a=true)/\b9 (C7 W wr))
 case atStart=>exact N0
 rename Nat=>g1;rename J=>y9;obtain⟨x,HA,rfl,Qe,XR⟩:=hrel;by_cases hlt:x<n
 ·have p0:=XR.o.o6 k0;have p1:=XR.o.o6 k1;go_wp2_with fail;refine IR (HV.o _ XR.o) λw1 A'=>?_;have T2:=I (XR.o.trans A');clear A' p0 p1;go_wp2_with fail
  go_loopg [9] n (λgk bb wr=>∃b:Nat,b9 (gk+b=n)/\bb=.int .i64 (b:Int)/\b9 (jQ (Gz k V) x b=true)/\b9 (C7 W wr))
  case atStart=>exact da
  obtain⟨y,HB,rfl,LJ,XS⟩:=hrel;by_cases hlb:y<n
  ·obtain⟨GQ,FG,vb,vo,rfl,f⟩:=XL (HI.o.ext XS.o) HGK.o hlt hlb;have HF:=I f;have IG:=I FG;clear f FG;have HQ:=I (show Gz k V x y=if k=1 then decide (x &&& y=x)&&decide (V[y]?.getD 0<V[x]?.getD 0) else if k=2 then decide (x &&& y=0)&&decide (V[x ||| y]?.getD 0<V[x]?.getD 0+V[y]?.getD 0) else decide (V[x ||| y]?.getD 0+V[x &&& y]?.getD 0<V[x]?.getD 0+V[y]?.getD 0)from rfl);obtain⟨Z,hZ⟩:=e9 (Gz k V x y);rw[<-hZ]at HQ;have HZB:=I hZ;clear hZ
   go_upto_block 4 with fail
   go_cut [10] (λs wx=>s=.bool Z/\b9 (C7 W wx))
   case first =>
    have q1:=XS.o.o6 k1;have c1:=HF.o.c1;have c2:=HF.o.c2;have c3:=HF.o.c3;have c4:=HF.o.c4;have hu:=HF.o.u;have ho:=HF.o.o;have b1:=IG.o x;have b2:=IG.o y;have b3:=IG.o (x ||| y);have b4:=IG.o (x &&& y);have HU:=I (λw'=>ZG x y j0 j0 w');have HO:=I (λw'=>Dm x y j0 j0 w');have HS:=I (λw'=>Bs x y j0 j0 w');obtain⟨v1,JD⟩:=e9 (V[x]?.getD 0);obtain⟨v2,MK⟩:=e9 (V[y]?.getD 0);obtain⟨v3,Tg⟩:=e9 (V[x ||| y]?.getD 0);obtain⟨v4,hv4⟩:=e9 (V[x &&& y]?.getD 0);obtain⟨tt,Es⟩:=e9 (decide (x &&& y=x));obtain⟨t0,Jq⟩:=e9 (decide (x &&& y=0));rw[<-JD,<-MK,<-Tg,<-hv4,<-Es,<-Jq]at HQ;simp only[<-Es]at HS;rw[<-JD]at c1 b1;rw[<-MK]at c2 b2;rw[<-Tg]at c3 b3;rw[<-hv4]at c4 b4;have ht:(((x &&& y:Nat):Int) == 0)=t0:=by rw[Jq,yy];simp
    clear JD MK Tg hv4 Es Jq;generalize x ||| y=u at c3 HU hu
    generalize x &&& y=o at c4 HO ho ht;have Hn:=dk (v1+v2);have hw2:=dk (v3+v4);have hx':=Rd x n;have hy':=Rd y n;have Of:=Rd u n;have ho':=Rd o n;have B8:=ST x;have JC:=ST y;have KZ:=ST u;have ho0:=ST o;clear b1 b2 b3 b4 hu ho;have B6:=C7.drew wr;have E:=I (λ(w':J) (G:C7 wr w')=>(⟨⟨G.o6 q1,G.o6 c1,G.o6 c2,G.o6 c3,G.o6 c4⟩,G⟩:SR w' w.heap.size vb vo n cap x y u o v1 v2 v3 v4/\C7 wr w'));rcases LN.o with rfl|rfl|rfl
    ·have HQ2:=I (show Z=(tt&&decide (v2<v1))from HQ.o);clear ht;go_upto_region 12 with fail;cases tt
     all_goals
      unfold SR at E;refine mc E B6 λH=>?_;refine tk 0 ?_;refine tk 1 ?_;refine rd 2 λK hK=>?_;go_simp
      (go_at_call 307;refine(HS.o _).mono ?_;rintro e w5 ⟨rfl,rfl⟩)
      go_wp2_with fail;refine KO (E.o _ B6) λH=>?_;refine tk 3 ?_
     ·
      refine gn ⟨?_⟩;refine TK ⟨?_⟩;refine tk 14 ?_;refine tk 15 ?_;refine tk 16 ?_;exact p3
        
     refine gn ⟨?_⟩;refine TK ⟨?_⟩;refine tk 14 ?_;refine tk 15 ?_;refine tk 16 ?_;exact Th
    ·have HQ2:=I (show Z=(t0&&decide (v3<v1+v2))from HQ.o);go_upto_region 14 with fail;cases t0
     all_goals
      unfold SR at E;refine mc E B6 λH=>?_;refine tk 0 ?_;refine tk 1 ?_;refine rd 2 λK hK=>?_;go_simp
      (go_at_call 308;refine(HO.o _).mono ?_;rintro e w5 ⟨rfl,rfl⟩)
      go_wp2_with fail;refine KO (E.o _ B6) λH=>?_;refine tk 3 ?_;refine tk 4 ?_
     ·
      refine V8 ⟨?_⟩;refine tk 10 ?_;refine TK ⟨?_⟩;refine LA ⟨?_⟩;refine Wj ⟨?_⟩;exact p3
        
     refine V8 ⟨?_⟩;refine tk 10 ?_;refine TK ⟨?_⟩;refine Xd ⟨?_⟩;refine tk 18 ?_;refine tk 19 ?_;refine rd 20 λK hK=>?_;go_simp
     (go_at_call 309;refine(HU.o _).mono ?_;rintro e w5 ⟨rfl,rfl⟩)
     go_wp2_with fail;refine KO (E.o _ B6) λH=>?_;refine tk 21 ?_;refine tk 22 ?_;refine Wj ⟨?_⟩;exact Th
    have HQ2:=I (show Z=decide (v3+v4<v1+v2)from HQ.o);clear ht;go_upto_region 10 with fail;unfold SR at E;refine mc E B6 λH=>?_
    refine vA ⟨?_⟩;refine tk 14 ?_;refine ck ⟨?_⟩;refine tk 21 ?_;refine rd 15 λK hK=>?_;go_simp
    (go_at_call 309;refine(HU.o _).mono ?_;rintro e w5 ⟨rfl,rfl⟩)
    go_wp2_with fail;refine KO (E.o _ B6) λH=>?_;refine tk 16 ?_;refine tk 17 ?_;refine rd 22 λK hK=>?_;go_simp
    (go_at_call 308;refine(HO.o _).mono ?_;rintro e w5 ⟨rfl,rfl⟩)
    go_wp2_with fail;refine KO (E.o _ B6) λH=>?_;refine Wj ⟨?_⟩;refine tk 26 ?_;refine tk 27 ?_;refine Pi j8 ?_ _;go_wp2_with fail;go_meet;exact⟨by rw[HQ2.o],I (XS.o.trans B6)⟩
   obtain⟨rfl,XC⟩:=hcut;cases hb:Z
   ·have hb:=HZB.o.symm.trans hb;have aeP:=I (show jQ (Gz k V) x (y+1)=true by rw[rH,LJ.o,hb];rfl);clear hb;go_wp2_with fail;refine Ng ?_;exact⟨y+1,I (k8 HB.o),by go_num,aeP,XC⟩
   have hb:=HZB.o.symm.trans hb;have H7:=I (show GH (Gz k V) n n=false from xq hb hlt hlb);clear hb;go_wp2_with fail
   go_ret3
   exact⟨⟨_,_,eU (by rw[HZ.o,H7.o];rfl)⟩,HX.o.trans XC.o⟩
  have MP:y=n:=k8 HB.o;subst MP;have aeQ:=I (show GH (Gz k V) y (x+1)=true by rw[uv,Qe.o,LJ.o];rfl);exact Jo
 exact sn
theorem UZ{p:Int}{cap:Nat}(h:d9 w a n cap V)(k:Nat)(E:k=1∨k=2∨k=3):
 f8 188 #[FS p a n cap,U k] w (bl (dd k p V)):=by
 have HX:=I (C7.alloc w (QD #[U p,GI a n cap] 31));refine t8 (ZF (p:=p) (h.ext HX) k E) (λ(w':J) (hx:C7 w w')=>bY (p:=p) (h.ext hx)) h.hlen λHK HV H=>?_;have HP:=I (show dd k p V=(ak p V&&GH (Gz k V) n n)by unfold dd;rw[H.o]);generalize dd k p V=z at HP⊢;generalize GH (Gz k V) n n=y1 at HK HP;clear h E;exact V5
section
variable{w:J}{p:Int}{a:l9}{n cap:Nat}{V:o3}
theorem Bu(h:d9 w a n cap V):f8 118 #[FS p a n cap] w (bl (dd 1 p V)):=by
 have X2:=I (C7.alloc w (QD #[U p,GI a n cap] 31));have E:=I (UZ (p:=p) (h.ext X2) 1 (.inl rfl));clear h;unfold f8;go_in
 go_wp2_with fail;refine IR E λw1 hx=>?_;exact P3
theorem ZH(h:d9 w a n cap V):f8 119 #[FS p a n cap] w (bl (dd 2 p V)):=by
 have X2:=I (C7.alloc w (QD #[U p,GI a n cap] 31));have E:=I (UZ (p:=p) (h.ext X2) 2 (.inr (.inl rfl)));clear h;unfold f8;go_in
 go_wp2_with fail;refine IR E λw1 hx=>?_;exact P3
theorem Dj(h:d9 w a n cap V):f8 120 #[FS p a n cap] w (bl (dd 3 p V)):=by
 have X2:=I (C7.alloc w (QD #[U p,GI a n cap] 31));have E:=I (UZ (p:=p) (h.ext X2) 3 (.inr (.inr rfl)));clear h;unfold f8;go_in
 go_wp2_with fail;refine IR E λw1 hx=>?_;exact P3
end
end
section
variable{V:o3}{w:J}{x:Int}{a:l9}{m:Nat}
def Px(_:Nat):Int:=1
def oI(p:Int)(V:o3)(k:Nat):l7:=if ak p V=true then L9 Px V ((JL V:Int)/2) k else []
def ig(p:Int)(V:o3):l7:=oI p V p.toNat
theorem kP{p:Int}(k:Nat)(h:ak p V=false):oI p V k=[]:=by simp[oI,h]
theorem ko{p:Int}(k:Nat)(h:ak p V=true):oI p V k=L9 Px V ((JL V:Int)/2) k:=by simp[oI,h]
theorem nu(p:Int)(V:o3):JL (ig p V)<=5:=by
 unfold ig;cases h:ak p V
 ·rw[kP _ h];simp
 obtain⟨n,rfl,_,E,_⟩:=ap h;rw[ko _ h,km];simpa using E
theorem rh(x:Int)(w:J):Calls prog 126 #[U x] w λe w'=>e=ar (U 1)/\w=w':=by
 go_in
 go_wp2;go_ret;exact⟨rfl,rfl⟩
theorem pW:NE prog 126:=cR func126 j8 j8
theorem sV{cap:Nat}(h:d9 w a m cap V):
 Calls prog 59 #[FS x a m cap] w λe w'=>(∃v,e=ar (.tuple #[v,bl (ak x V)])/\WV w' w v (ig x V))/\C7 w w':=by
 have hi:=h.alloc (QD #[U x,GI a m cap] 31);refine Op (C7.alloc w (QD #[U x,GI a m cap] 31)) h.hlen hi (bV (p:=x) hi) λHX HL HI H=>?_;clear h hi;cases E:ak x V
 ·rw[E]at H;have K:=I E;clear E;go_in
  go_wp2_with fail;refine IR H λG hx=>?_;go_wp2;refine Fn u' rfl ⟨⟨_,rfl,by unfold ig;rw[kP _ K.o];exact qj⟩,HX.trans hx⟩
 rw[E]at H;obtain⟨n,rfl,h1,h5,hlen,_,I5⟩:=ap E;have K:=I E;have hm:m=cN n:=k8 HL.o;have hN:=bp n h5;have HM:=I hm;have H7:=I I5;have Wy:m<=32:=j0;clear E hlen I5 hm hN;go_in
 go_wp2_with fail;refine i7 H λG hx=>?_;have c0:G.cell? (O w 0)=some (U n):=hx.o6 j7;have c1:G.cell? (O w 1)=some (GI a m cap):=hx.o6 j7;have X1:=I (HX.trans hx);have MA:=I (HI.ext hx);have HT:b9 (ix prog G 126 #[] 6 Px):=I λs Z _ _=>(rh _ Z).mono λe w3 ⟨he,hw⟩=>⟨he,hw▸WF⟩;go_wp2_with fail;refine(rB MA.o h1 h5 HM.o H7.o (λ_=>by unfold Px;omega) pW HT).mono ?_;rintro e Z ⟨⟨v,rfl,ho⟩,hx⟩;have hs:=X1.size;go_wp2;refine Fn u' rfl ⟨⟨_,rfl,?_⟩,X1.trans hx⟩;unfold ig;rw[ko _ K.o,HL.o];exact ho.mono j0
theorem tG{cap:Nat}(h:d9 w a m cap V):
 Calls prog 42 #[FS x a m cap] w λe w'=>(∃v,e=ar (.tuple #[v,bl (ak x V)])/\WV w' w v (ig x V))/\C7 w w':=by
 have hi:=h.alloc (QD #[U x,GI a m cap] 31);refine Op (C7.alloc w (QD #[U x,GI a m cap] 31)) h.hlen hi (WV.made (w.alloc (QD #[U x,GI a m cap] 31)) (w+1) j7) λHX HL HI HO=>?_;have⟨r8,r9⟩:=h.aq9;clear h hi;cases hv:ak x V
 ·have Z:=I hv;clear hv;go_in
  go_wp2
  go_loopw [4,5] (λo i wr=>∃(a1:l9) (n1 p1:Nat),i=U 0/\o=GI a1 n1 p1/\b9 (WV wr (w+1) (GI a1 n1 p1) [])/\b9 (C7 (w.alloc (QD #[U x,GI a m cap] 31)) wr)) (λ_ i _=>0)
  ·exact⟨_,_,_,rfl,rfl,I (by simpa using HO.o),I WU⟩
  obtain⟨a1,n1,p1,rfl,rfl,Ec,aa⟩:=hrel;have c0:wr.cell? (O w 0)=some (U x):=aa.o6 j7;have c1:wr.cell? (O w 1)=some (GI a m cap):=aa.o6 j7;have Yy:=I (HI.ext aa);have K:=I (bY (p:=x) Yy);rw[Z.o]at K;by_cases hlt:(0:Int)<x
  ·go_wp2_with fail;refine i7 K λw2 H=>?_;refine t8 (Yy.ext H) (aa.trans H) (Ec.ext H) λYx C0 B9=>?_;replace c0:=H.o6 c0;replace c1:=H.o6 c1;have K:=I (bY (p:=x) Yx);rw[Z.o]at K;go_wp2_with fail;refine IR K λw3 B5=>?_;go_wp2;refine Fn Sd rfl ⟨⟨_,rfl,by unfold ig;rw[kP _ Z.o];exact(B9.ext B5).mono j0⟩,HX.trans (C0.trans B5)⟩
  go_wp2_with fail;refine IR K λw3 B5=>?_;go_wp2;refine Fn Sd rfl ⟨⟨_,rfl,by unfold ig;rw[kP _ Z.o];exact(Ec.ext B5).mono j0⟩,HX.trans (aa.trans B5)⟩
 obtain⟨n,rfl,h1,h5,hlen,_,I5⟩:=ap hv;have Z:=I hv;have hm:m=cN n:=k8 HL.o;have hN:=bp n h5;have HM:=I hm;have H7:=I I5;have Wy:m<=32:=j0;clear hv hlen I5 hm hN;go_in
 go_wp2
 go_loopw [4,5] (λo i wr=>∃(k:Nat) (a1:l9) (n1 p1:Nat),k<=n/\i=U k/\o=GI a1 n1 p1/\b9 (WV wr (w+1) (GI a1 n1 p1) (oI (n:Int) V k))/\b9 (C7 (w.alloc (QD #[U n,GI a m cap] 31)) wr)) (λ_ i _=>n-(intOf i).toNat)
 ·exact⟨0,_,_,_,gi _,rfl,rfl,I (by rw[ko _ Z.o,nt];simpa using HO.o),I WU⟩
 obtain⟨k,a1,n1,p1,hk,rfl,rfl,HO1,A0⟩:=hrel;have c0:wr.cell? (O w 0)=some (U n):=A0.o6 j7;have c1:wr.cell? (O w 1)=some (GI a m cap):=A0.o6 j7;have MA:=I (HI.ext A0);have K:=I (bY (p:=(n:Int)) MA);rw[Z.o]at K;by_cases hlt:k<n
 ·go_wp2_with fail;refine i7 K λw2 H=>?_;refine t8 (MA.ext H) (A0.trans H) (HO1.ext H) λYy aa Ec=>?_;replace c0:=H.o6 c0;replace c1:=H.o6 c1;have D7:A4 (k:Int) 0 4=true:=by unfold A4;simp;omega
  have HC:=I (vL (k:Int) D7);clear D7;go_wp2
  go_loopw [6,7] (λt i wr2=>∃(j:Nat),j<=m/\i=U j/\t=U (Jk Px V k j)/\b9 (C7 w2 wr2)) (λ_ i _=>m-(intOf i).toNat)
  ·exact⟨0,gi _,rfl,rfl,I WF⟩
  obtain⟨j,hj,rfl,ht,C0⟩:=hrel;have⟨T,hT⟩:=e9 (Jk Px V k j);have hTb:=oH H7.o (λi=>by unfold Px;omega) k j (wt:=Px);rw[<-hT]at ht hTb;subst ht;have HT:=I hT;clear hT;have c1':=C0.o6 c1;by_cases Ez:j<m
  ·have Yx:=I (Yy.ext C0);have⟨b,off,he,hc⟩:=Yx.at Ez;have JD:=dp H7.o j;have⟨v1,HY1⟩:=GT (V[j]?.getD 0);rw[<-HY1.o]at hc JD;subst he;have hb:=dE (j:Int) k j0 j0;cases G:M2 (j:Int) k
   ·rw[G]at hb;have HB:=I G;have Gf:=I hb;have hu:=Ux h5 (by rw[<-HM.o];exact Ez) hlt G;obtain⟨u,Of⟩:∃u:Nat,u=j+2^k:=⟨_,rfl⟩;have hui:(j:Int)+2^k=(u:Int):=by rw[Of];simp
    have hum:u<m:=by rw[HM.o,Of];exact hu
    have⟨b2,off2,SG,GU⟩:=Yx.at hum;obtain⟨rfl,rfl⟩:=aM SG;clear SG;have MK:=dp H7.o u;have⟨v2,KG⟩:=e9 (V[u]?.getD 0);rw[<-KG]at GU MK;have HY2:=I KG;have HU:=I Of;have e1:=dk (T+v2);have e2:=dk (T+v2-v1);have e3:IntKind.i64.wrap ((j:Int)+2^k)=(u:Int):=by rw[hui,mn];omega
    have o7:=C7.drew wr;have abU:u<=32:=j0;clear KG G hu hui Of hb JD MK hTb;go_wp2_with (go_at_call 99;refine cP (bE _ _ _ j0) ?_;rw[Gf.o])
    go_region_held3 (λw'=>w'.cell? (O w 1)=some (GI (some (O b off)) m cap)/\w'.cell? (O b (off+u))=some (U v2)/\w'.cell? (O b (off+j))=some (U v1)/\C7 wr w')
     (exact⟨o7.o6 c1',o7.o6 GU,o7.o6 hc,o7⟩)
     (first
       | (go_at_call 102;refine cP (tL _ _) ?_;rw[HC.o]))
    go_wp2
    go_roundw
    case rel=>exact⟨j+1,by omega,by go_num,by unfold Jk;rw[HB.o,<-HT.o,<-HU.o,<-HY2.o,<-HY1.o];simp[Px];omega,I (C0.trans o7)⟩
    exact sw
   rw[G]at hb;have HB:=I G;have Gf:=I hb;clear G hb;go_wp2_with (go_at_call 99;refine cP (bE _ _ _ j0) ?_;rw[Gf.o])
   go_roundw
   case rel=>exact xo
   exact sw
  have Ln:j=m:=j0;subst Ln;obtain⟨p,q,ok,D4⟩:∃p q ok,aN T ((j:Int)/2)=((p,q),ok):=⟨_,_,_,rfl⟩;refine t8 D4 (aa.trans C0) (Ec.ext C0) λEJ Ud B9=>?_;have Iz:w.heap.size+1<=wr.heap.size:=by have:=Ud.size;simpa using this
  clear D4;go_wp2_with fail;refine i7 (lQ _ _ _) λw3 B5=>?_;rw[EJ.o];have X3:=I (Ud.trans B5);have EI:=I (B9.ext B5);have KI:=B5.size
  go_wp2_with (first
   | (at_builtin;refine cG rfl _ _ rfl (w+1) (GI a1 n1 p1) _ rfl ((EI.ext WU).ext WU) _ 1 _ [(p,q)] rfl (C2 j7) (by rw[ko _ Z.o,km];omega) m9 ?_;intro v2 w4 ho hg r7;obtain⟨a2,n2,c2,rfl,Hb⟩:=ho.var;have DT:=I ho;have HG4:=I hg;clear ho hg r7))
  go_roundw
  case rel =>
   refine⟨k+1,a2,n2,c2,by omega,by go_num,rfl,I ?_,I ?_⟩
   ·have:=DT.o;rw[ko _ Z.o]at this⊢;rw[HL.o]at this;rw[nq,XV,HL.o,<-HT.o,EJ.o];exact this
   exact aj (X3.trans (WU.trans WU)) HG4.o (λj hj=>by have:=(EI.lt j hj).1;simpa using this)
  exact sw
 go_wp2_with fail;refine IR K λw3 B5=>?_;go_wp2;have DV:k=n:=j0;subst DV;refine Fn Sd rfl ⟨⟨_,rfl,by unfold ig;exact(HO1.ext B5).mono j0⟩,HX.trans (A0.trans B5)⟩
structure gz(w:J)(a:l9)(n cap:Nat):Prop where
 r8:n<=cap
 r9:cap<=9223372036854775807
 cell:∀k,k<n->∃b off,a=some (O b off)/\∀k,k<n->∃x:Int,w.cell? (O b (off+k))=some (.int .u8 x)/\0<=x/\x<=255
theorem gz.aq9{w:J}{a:l9}{n cap:Nat}(h:gz w a n cap):n<=cap/\cap<=9223372036854775807:=⟨h.r8,h.r9⟩
def Qk(s:Nat)(k:Nat):Nat:=(List.range k).countP λj=>M2 (s:Int) j
theorem CX(s k:Nat):Qk s (k+1)=Qk s k+if M2 (s:Int) k then 1 else 0:=by
 unfold Qk;rw[rN,List.countP_append];simp[List.countP_cons]
theorem ZO(s k:Nat):Qk s k<=k:=by unfold Qk;exact fy B' j7
theorem U0(s:Nat)(hs:s<4294967296)(w:J):Calls prog 100 #[.int .i64 (s:Int)] w λe w'=>e=ar (.int .i64 (Qk s 5:Int))/\w=w':=by
 go_in
 go_wp2
 go_loop [3,4] (λK E=>∃k:Nat,k<=5/\E=.int .i64 (k:Int)/\K=.int .i64 (Qk s k:Int)) (λ_ E=>5-(intOf E).toNat)
 ·exact⟨0,by omega,rfl,rfl⟩
 obtain⟨k,hk,rfl,rfl⟩:=hrel;have hple:=ZO s k;by_cases hlt:k<5
 ·refine t8 (bE (s:Int) (k:Int) w j0) (dE (s:Int) k j0 j0) (CX s k) λH Z G=>?_;cases hb:M2 (s:Int) k
  all_goals
   rw[Z.o,hb]at H;rw[hb]at G;clear hb;go_wp2_with fail;refine cP H ?_;go_wp2
   go_round
   case rel=>exact⟨k+1,by omega,by go_num,by rw[G.o];go_num⟩
   simp[intOf];omega
 have Q:k=5:=j0;subst Q;go_wp2;go_ret;exact⟨rfl,rfl⟩
def Qy(V:o3):Prop:=∀k:Nat,-100<=V[k]?.getD 0/\V[k]?.getD 0<=100
structure Uo(w w':J)(cb most n vb:Nat)(V:o3):Prop where
 lo:1<=n
 hi:n<=most
 len:V.length=cN n
 tiny:Qy V
 zero:V[0]?.getD 0=0
 row:nM w' vb 3 V
 new:w.heap.size<=vb
 ne:vb≠cb
def fk:Nat->Int
 | 0=>1
 | k+1=>((k:Int)+1)*fk k
def dD(n:Int):Int:=fk n.toNat
theorem kq(m:Nat)(h:m<=5):1<=fk m/\fk m<=120:=by
 have:m=0∨m=1∨m=2∨m=3∨m=4∨m=5:=j0;rcases this with rfl|rfl|rfl|rfl|rfl|rfl<;>decide
def n0(n i:Nat):Int:=fk i*fk (n-1-i)
theorem ay(n i:Nat)(hn:n<=5)(hi:i<=5):0<=n0 n i/\n0 n i<=1000:=by
 have E:∀n:Fin 6,∀i:Fin 6,0<=n0 n.val i.val/\n0 n.val i.val<=1000:=by decide +kernel
 exact E ⟨n,by omega⟩ ⟨i,by omega⟩
def QW(n i:Nat):Int:=if i<=5 then n0 n i else 0
theorem xZ(n:Nat)(E:n<=5)(i:Nat):-1000<=QW n i/\QW n i<=1000:=by
 unfold QW;split
 ·have:=ay n i E (by assumption);omega
 omega
def sy(p:Int)(V:o3)(k:Nat):l7:=if ak p V=true then L9 (QW p.toNat) V (dD p) k else []
def fP(p:Int)(V:o3):l7:=sy p V p.toNat
theorem ov{p:Int}(k:Nat)(h:ak p V=false):sy p V k=[]:=by simp[sy,h]
theorem qE{p:Int}(k:Nat)(h:ak p V=true):sy p V k=L9 (QW p.toNat) V (dD p) k:=by simp[sy,h]
theorem ou(p:Int)(V:o3):JL (fP p V)<=5:=by
 unfold fP;cases h:ak p V
 ·rw[ov _ h];simp
 obtain⟨n,rfl,_,E,_⟩:=ap h;rw[qE _ h,km];simpa using E
theorem vZ{n:Int}{j:Nat}(E:j=0∨(j:Int)+1<=n)(h2:¬(j:Int)+2<=n):fk (j+1)=dD n:=by
 unfold dD;rcases E with rfl|E
 ·have:n.toNat=0∨n.toNat=1:=by omega
  rcases this with h|h<;>rw[h]<;>decide
 rw[show n.toNat=j+1 by omega]
def Qa(h:σ:=by
 go_in
 go_wp2
 go_loop [3,4] (λo i=>∃j:Nat,b9 (j=0∨(j:Int)+1<=n)/\i=U ((j:Int)+2)/\o=U (fk (j+1))) (λ_ i=>(8-intOf i).toNat)
 ·exact⟨0,I (.inl rfl),by simp,by rfl⟩
 case round =>
  obtain⟨j,HJ,rfl,hT⟩:=hrel;have⟨T,hT'⟩:=e9 (fk (j+1));rw[<-hT']at hT;subst hT;have HT:=I hT';clear hT';have hj5:j<=4:=by have:=HJ.o;omega
  by_cases hlt:(j:Int)+2<=n
  ·have hmul:IntKind.i64.wrap (T*((j:Int)+2))=fk (j+2):=by
    have h1:T*((j:Int)+2)=fk (j+2):=by rw[HT.o];show _=(((j+1:Nat):Int)+1)*fk (j+1);rw[TG];congr 1
    have h2:=kq (j+2) j0;rw[h1,mn];omega
   go_wp2
   go_round
   case rel=>exact⟨j+1,I (.inr j0),by go_num,by rfl⟩
   simp[intOf];omega
  have HE:=I (vZ HJ.o hlt);go_wp2;go_ret;exact⟨au (by rw[HT.o,HE.o]),rfl⟩
 ):σ:=h
theorem pz(n:Int)(hn:n<=5)(w:J):Calls prog 124 #[U n] w λe w'=>e=ar (U (dD n))/\w=w':=by
 exact Qa
theorem lS(n:Int)(hn:n<=5)(w:J):Calls prog 101 #[U n] w λe w'=>e=ar (U (dD n))/\w=w':=by
 exact Qa
theorem rA(s n:Nat)(hs:s<=5)(h1:1<=n)(h5:n<=5){b:Nat}(hc:w.cell? (O b 0)=some (U n)):f8 123 #[U s,aP (some (O b 0))] w (U (QW n s)):=by
 have K:=I (show dD (s:Int)*dD ((n:Int)-1-(s:Int))=QW n s by
  unfold QW n0 dD;rw[f9 hs,show((n:Int)-1-(s:Int)).toNat=n-1-s by omega];rfl)
 have H:=kq s hs;have G:=kq (n-1-s) j0;have hA1:1<=dD (s:Int)/\dD (s:Int)<=120:=by unfold dD;rw[gg];exact H
 have E:1<=dD ((n:Int)-1-(s:Int))/\dD ((n:Int)-1-(s:Int))<=120:=by unfold dD;rw[show((n:Int)-1-(s:Int)).toNat=n-1-s by omega];exact G
 have hm:=sI (x:=dD (s:Int)) (y:=dD ((n:Int)-1-(s:Int))) j0 j0 j0 j0;have e1:IntKind.i64.wrap (dD (s:Int)*dD ((n:Int)-1-(s:Int)))=QW n s:=by rw[<-K.o,mn];omega
 have e2:=dk ((n:Int)-1);have e3:=dk ((n:Int)-1-(s:Int));clear hA1 E H G hm;unfold f8;go_in
 go_wp2
 go_quiet ((go_at_call 124;exact be (pz _ j0 _)))
 go_wp2;go_ret;exact⟨rfl,E7.ext ⟨_,rfl⟩⟩
theorem pY:NE prog 123:=cR func123 j8 j8
theorem lM{cap:Nat}(h:d9 w a m cap V):
 Calls prog 57 #[FS x a m cap] w λe w'=>(∃v,e=ar (.tuple #[v,bl (ak x V)])/\WV w' w v (fP x V))/\C7 w w':=by
 have hi:=h.alloc (QD #[.int .i64 x,GI a m cap] 31);refine Op (C7.alloc w (QD #[.int .i64 x,GI a m cap] 31)) h.hlen hi (bV (p:=x) hi) λHX HL HI Z=>?_;clear h hi;cases G:ak x V
 ·rw[G]at Z;have FH:=I G;clear G;go_in
  go_wp2_with fail;refine IR Z λE hx=>?_;go_wp2;refine Fn sg rfl ⟨⟨_,rfl,by unfold fP;rw[ov _ FH.o];exact qj⟩,HX.trans hx⟩
 rw[G]at Z;obtain⟨n,rfl,h1,h5,hlen,_,I5⟩:=ap G;have FH:=I G;have hm:m=cN n:=k8 HL.o;have HM:=I hm;have H7:=I I5;clear G hlen I5 hm;go_in
 go_wp2_with fail;refine IR Z λE hx=>?_;have c0:E.cell? ⟨w,0,none⟩=some (.int .i64 (n:Int)):=hx.o6 j7;have c1:E.cell? ⟨w,1,none⟩=some (GI a m cap):=hx.o6 j7;have X1:=I (HX.trans hx);have⟨W,K⟩:=e9 (E.alloc (QD #[.int .i64 (n:Int)] 3));have Mk:C7 E W:=by rw[K];exact WU
 have MA:=I ((HI.ext hx).ext Mk);have XW:=I (X1.trans Mk);have cn:W.cell? ⟨E,0,none⟩=some (.int .i64 (n:Int)):=by rw[K];simp
 have HT:b9 (ix prog W 123 #[aP (some ⟨E,0,none⟩)] 6 (QW n)):=I λs w2 hs C4=>rA s n j0 h1 h5 (C4.o6 cn)
 clear hx;go_upto_region 4 with fail;rw[<-K];replace c0:=Mk.o6 c0;replace c1:=Mk.o6 c1;clear K Mk;have H:=C7.drew W;have o8:=I λw' (h:C7 W w')=>TX (h.o6 c0) (TX (h.o6 c1) (TX (h.o6 cn) h));have hsW:=XW.size
 go_region_held3 (λw'=>w'.cell? ⟨w,0,none⟩=some (.int .i64 (n:Int))/\w'.cell? ⟨w,1,none⟩=some (GI a m cap)/\w'.cell? ⟨E,0,none⟩=some (.int .i64 (n:Int))/\C7 W w')
  (first
    | with_reducible exact o8.o _ H)
  (first
    | ((with_reducible refine(pz _ j0 _).mono ?_)
       rintro e w4 ⟨rfl,rfl⟩)
    | ((with_reducible refine(rB (MA.o.ext H) h1 h5 HM.o H7.o (xZ n h5) pY (HT.o.ext H)).mono ?_)
       rintro e w5 ⟨⟨v5,rfl,Mq⟩,Ey⟩;have O5:=I Mq;have H:=H.trans Ey;clear Mq Ey))
 all_goals go_wp2_with fail
 all_goals refine Fn sg rfl ⟨⟨_,rfl,?_⟩,XW.trans H⟩
 all_goals
  unfold fP;rw[qE _ FH.o,gg];exact O5.mono (by simpa using hsW)
theorem sb{n q:Nat}(E:q<=5):dD (q:Int)*dD ((n:Int)-(q:Int)-1)=QW n q:=by
 unfold QW n0 dD;rw[f9 E,show((n:Int)-(q:Int)-1).toNat=n-1-q by omega];rfl
theorem vX{n:Int}(h:n<=5):1<=dD n/\dD n<=120:=kq _ j0
theorem lR{cap:Nat}(h:d9 w a m cap V):
 Calls prog 41 #[FS x a m cap] w λe w'=>(∃v,e=ar (.tuple #[v,bl (ak x V)])/\WV w' w v (fP x V))/\C7 w w':=by
 have⟨W,hW⟩:=e9 (w.alloc (QD #[.int .i64 x,GI a m cap] 31));have DW:=I (show W.heap.size=w.heap.size+1 by rw[hW];simp);have HX:=I (show C7 w W by rw[hW];exact WU);have O9:=I (show W.cell? ⟨w,0,none⟩=some (.int .i64 x)by rw[hW];simp);have Sn:=I (show W.cell? ⟨w,1,none⟩=some (GI a m cap)by rw[hW];simp);have HO:=I (show WV (W.alloc (QD #[] 56)) (w+1) (GI (some ⟨w.heap.size+1,0,none⟩) 0 0) []by
  have:=WV.made (w.alloc (QD #[.int .i64 x,GI a m cap] 31)) (w+1) j7;rw[hW];simpa using this)
 have HL:=I h.hlen;have HI:=I (h.ext HX);have r9:=h.r9;have r8:=h.r8;have HV:=I (bY (p:=x) (HI.ext (C7.alloc W (QD #[] 56))));clear h;cases H:ak x V
 ·have FH:=I H;rw[H,hW]at HV;clear H;go_in
  go_wp2_with fail;refine HV.mono ?_;rw[<-hW];rintro e w2 ⟨rfl,C4⟩;go_wp2;refine Fn Qf rfl ⟨⟨_,rfl,by unfold fP;rw[ov _ FH.o];exact(HO.ext C4).mono j0⟩,HX.trans (WU.trans C4)⟩
 obtain⟨n,rfl,h1,h5,hlen,_,I5⟩:=ap H;have FH:=I H;have hm:m=cN n:=k8 HL.o;have hN:=bp n h5;have HM:=I hm;have H7:=I I5;have Wy:m<=32:=j0;rw[H,hW]at HV;clear H hlen I5 hm hN;go_in
 go_wp2_with fail;refine HV.mono ?_;rw[<-hW];clear hW;rintro e w1 ⟨rfl,A'⟩;have A0:=I ((C7.alloc W (QD #[] 56)).trans A');have c0:=A0.o6 O9.o;have HO1:=I (HO.ext A');clear A';go_wp2_with fail;clear c0
 go_loopg [4,6] n (λgk o i wr=>∃(k:Nat) (a1:l9) (n1 p1:Nat),b9 (gk+k=n)/\i=.int .i64 (k:Int)/\o=GI a1 n1 p1/\b9 (WV wr (w+1) (GI a1 n1 p1) (L9 (QW n) V (dD (n:Int)) k))/\b9 (C7 W wr))
 ·exact⟨0,_,_,_,I j0,rfl,rfl,I (by rw[nt];exact HO1),A0⟩
 rename Nat=>g1;rename J=>y9;obtain⟨k,a1,n1,p1,HK,rfl,rfl,Fs,C0⟩:=hrel;have hsz:=C0.size;rw[DW.o]at hsz;have c1:=C0.o6 Sn.o;have MA:=I (HI.ext C0);by_cases hlt:k<n
 ·have D7:A4 (k:Int) 0 4=true:=by unfold A4;simp;omega
  have HC:=I (UX k j0);have hp:=fg k;have Tm:=gj k j0;go_wp2
  go_loopg [7,8] m (λgk t i wr=>∃j:Nat,b9 (gk+j=m)/\i=.int .i64 (j:Int)/\t=.int .i64 (Jk (QW n) V k j)/\b9 (C7 y9 wr))
  ·exact JY
  obtain⟨j,HJ,rfl,ht,Z⟩:=hrel;have⟨T,hT⟩:=e9 (Jk (QW n) V k j);have hTb:=oH H7.o (xZ n h5) k j;rw[<-hT]at ht hTb;subst ht;have HT:=I hT;clear hT;have c1':=Z.o6 c1;by_cases Ez:j<m
  ·have Yx:=I (MA.ext Z);have⟨b,off,he,hc⟩:=Yx.at Ez;have JD:=dp H7.o j;have⟨v1,EN⟩:=e9 (V[j]?.getD 0);rw[<-EN]at hc JD;have HY1:=I EN;clear EN;subst he;have hb:=dE (j:Int) k j0 j0;cases G:M2 (j:Int) k
   ·rw[G]at hb;have HB:=I G;have Gf:=I hb;have hu:=Ux h5 (by rw[<-HM.o];exact Ez) hlt G;obtain⟨u,Of⟩:∃u:Nat,u=j+2^k:=⟨_,rfl⟩;have hui:(j:Int)+2^k=(u:Int):=by rw[Of];simp
    have hum:u<m:=by rw[HM.o,Of];exact hu
    have⟨b2,off2,SG,GU⟩:=Yx.at hum;simp only[bq,H4,E5]at SG;obtain⟨rfl,rfl⟩:=SG;have MK:=dp H7.o u;have⟨v2,KG⟩:=e9 (V[u]?.getD 0);rw[<-KG]at GU MK;have HY2:=I KG;have HU:=I Of;have JF:=zN j;have⟨q,hq⟩:=e9 (OI j);rw[<-hq]at JF;have HQ:=I hq;have Mn:=sb (n:=n) JF;have Pj:=vX (n:=(q:Int)) j0;have T7:=vX (n:=(n:Int)-(q:Int)-1) j0;have hmb:=sI (x:=dD (q:Int)) (y:=dD ((n:Int)-(q:Int)-1)) j0 j0 j0 j0;have⟨Wt,K⟩:=e9 (QW n q);have QZ:=xZ n h5 q;rw[<-K]at QZ Mn;have Tn:=sI QZ.1 QZ.2 (y:=v2-v1) j0 j0;have⟨X,hX⟩:=e9 (Wt*(v2-v1));rw[<-hX]at Tn;have Ir:=I hX;have HWt:=I K;have e0:IntKind.i64.wrap (dD (q:Int)*dD ((n:Int)-(q:Int)-1))=Wt:=by rw[<-Mn,mn];omega
    have e1:=dk (v2-v1);have e2:IntKind.i64.wrap (Wt*(v2-v1))=X:=by rw[<-hX,mn];omega
    have e3:IntKind.i64.wrap ((j:Int)+2^k)=(u:Int):=by rw[hui,mn];omega
    have e4:=dk (T+X);have e5:=dk ((n:Int)-(q:Int));have e6:=dk ((n:Int)-(q:Int)-1);have abU:u<=32:=j0;have HPOP:=I (show(Qk j 5:Int)=(q:Int)by rw[hq];rfl);clear KG G hu hui Of hb JD MK hTb hX K QZ Tn hmb Pj T7 Mn hq hp Tm;go_wp2_with (first|(go_at_call 99;refine(bE _ _ _ j0).mono ?_;rw[Gf.o];rintro e w' ⟨rfl,rfl⟩)|(go_at_call 100;refine(U0 j j0 _).mono ?_;rw[HPOP.o];rintro e w' ⟨rfl,rfl⟩))
    go_quiet ((first|(go_at_call 101;exact be (lS _ j0 _))|(go_at_call 102;exact be (HC _))))
    go_wp2;refine vE ?_;exact⟨j+1,I (k8 HJ.o),by go_num,by unfold Jk;rw[HB.o,<-HT.o,<-HU.o,<-HY2.o,<-HY1.o,<-HQ.o,<-HWt.o,<-Ir.o];simp[go_sem,e4],I (Z.trans (E7.ext ⟨_,rfl⟩))⟩
   rw[G]at hb;have HB:=I G;have Gf:=I hb;clear G hb;go_wp2_with (go_at_call 99;refine(bE _ _ _ j0).mono ?_;rw[Gf.o];rintro e w' ⟨rfl,rfl⟩)
   refine vE ?_;exact⟨j+1,I (k8 HJ.o),by go_num,by unfold Jk;rw[HB.o,<-HT.o];simp,Z⟩
  have Ln:m=j:=k8 HJ.o;subst Ln;obtain⟨p,q,ok,D4⟩:∃p q ok,aN T (dD (n:Int))=((p,q),ok):=⟨_,_,_,rfl⟩;refine t8 D4 (C0.trans Z) (Fs.ext Z) λEJ Ud B9=>?_;have Iz:=Ud.size;rw[DW.o]at Iz;have Fv:=I (λ(w':J)=>lQ T (dD (n:Int)) w');rw[EJ.o]at Fv;have SC:(n:Int)<=5:=j0;clear D4
  go_wp2_with (first
   | (go_at_call 101;refine cP (lS _ SC _) ?_)
   | (go_at_call 103;refine IR (Fv _) λw3 B5=>?_;have X3:=I (Ud.trans B5);have EI:=I (B9.ext B5);have KI:=B5.size;clear B5)
   | (at_builtin;refine cG rfl _ _ rfl (w+1) (GI a1 n1 p1) _ rfl ((EI.ext WU).ext WU) _ 1 _ [(p,q)] rfl (C2 j7) (by rw[km];omega) m9 ?_;intro v2 w4 ho hg r7;have X5:=I (aj (X3.trans (WU.trans WU)) hg (λj hj=>by rw[DW.o];exact(EI.lt j hj).1));obtain⟨a2,n2,c2,rfl,Hb⟩:=ho.var;have DT:=I ho;clear ho hg r7))
  refine kf ?_;refine⟨k+1,a2,n2,c2,I (k8 HK.o),by go_num,rfl,I ?_,X5⟩;have:=DT.o;rw[nq,XV,HL.o,<-HT.o,EJ.o];exact this
 have DV:n=k:=k8 HK.o;subst DV;go_wp2;refine Fn Qf rfl ⟨⟨_,rfl,by unfold fP;rw[qE _ FH.o,gg];exact Fs.mono j0⟩,HX.trans C0.o⟩
end
section
def sN{c:UInt8}:∀{a b:List UInt8},c∉a->Lib.indexByte (a++c::b) c=JL a
 | [],b,_=>by simp[Lib.indexByte]
 | x::a,b,h=>by
   have G:¬x=c:=λe=>h (by rw[e];exact o2)
   have E:=sN (b:=b) (λhm:c∈a=>h (B1 _ hm))
   show(if(x == c)=true then(0:Int) else if(Lib.indexByte (a++c::b) c == -1)=true then -1 else Lib.indexByte (a++c::b) c+1)=_;rw[E,f7 (by simpa using G),f7 j7];simp
def zj{c:UInt8}:∀{l:List UInt8},c∉l->Lib.indexByte l c=-1
 | [],_=>rfl
 | x::l,h=>by
   have G:¬x=c:=λe=>h (by rw[e];exact o2)
   have E:=zj (λhm:c∈l=>h (B1 _ hm))
   show(if(x == c)=true then(0:Int) else if(Lib.indexByte l c == -1)=true then -1 else Lib.indexByte l c+1)=_;rw[E,f7 (by simpa using G),f9 Fd]
def Tn{c:UInt8}{a b:List UInt8}(h:c∉a):Lib.cut (a++c::b) [c]=(a,b,true):=by
 unfold Lib.cut;rw[P',sN h,f9 j0,gg,List.take_left,G2,S9];rfl
def YL{c:UInt8}{l:List UInt8}(h:c∉l):Lib.cut l [c]=(l,[],false):=by
 unfold Lib.cut;rw[P',zj h,f7 Fd]
def CA(c:UInt8):∀(n:Nat) (l:List UInt8),JL l<=n->Lib.join (DR c l) [c]=l:=by
 intro n
 induction n with
 | zero=>intro l h;obtain rfl:=QX (Nat.le_zero.1 h);rfl
 | succ n ih =>
   intro l h;by_cases hm:c∈l
   ·obtain⟨a,b,rfl,G⟩:=iq hm;have hb:=ih b (by simp at h;omega);rw[mR G,QP];have E:=ip c b;cases hs:DR c b with
    | nil=>rw[hs]at E;simp at E
    | cons y r =>
      rw[hs,QP]at hb;unfold Lib.joinTail at hb⊢;simp only[Ti,JI];rw[<-hb];simp
   rw[qF hm,tg]
def nZ(c:UInt8)(l:List UInt8):Lib.join (DR c l) [c]=l:=CA c (JL l) l (i8 _)
def Df{c d:UInt8}:∀(n:Nat) (l:List UInt8),Lib.count l [c]=n->Lib.replaceK [c] [d] n l=Lib.join (DR c l) [d]:=by
 intro n
 induction n with
 | zero =>
   intro l h;have hm:c∉l:=λhm=>by
    rw[Sf]at h;exact absurd h (Nat.ne_of_gt (List.count_pos_iff.2 hm))
   rw[qF hm,tg];rfl
 | succ n ih =>
   intro l h;have hm:c∈l:=by
    rw[Sf]at h;exact List.count_pos_iff.1 j0
   obtain⟨a,b,rfl,E⟩:=iq hm;have hi:Lib.index (a++c::b) [c]=(JL a:Int):=by rw[P',sN E]
   have hb:Lib.count b [c]=n:=by
    rw[Sf,List.count_append,List.count_eq_zero.2 E,List.count_cons_self,<-Sf]at h;omega
   rw[Lib.replaceK_hit _ _ _ _ _ hi,G2,List.take_left,S9,mR E,QP];show a++[d]++Lib.replaceK [c] [d] n b=_;rw[ih b hb];have G:=ip c b;cases hs:DR c b with
   | nil=>rw[hs]at G;simp at G
   | cons y r =>
     rw[QP];unfold Lib.joinTail;simp
def U8{c d:UInt8}(E:c≠d)(l:List UInt8):Lib.replaceAll l [c] [d]=Lib.join (DR c l) [d]:=by
 unfold Lib.replaceAll Lib.replace;rw[f7 (by simpa using E)];unfold Lib.replaceNum;rw[f9 (xt Fd)];exact Df _ l rfl
def zH{R:List (List UInt8)}(h:0<=aD (Lib.join R [32]) 6):JL R=1:=by
 cases R with
 | nil=>exact absurd h Fd
 | cons x r =>
   cases r with
   | nil=>rfl
   | cons y q =>
     refine absurd (yJ h) (λE=>E ?_);rw[QP];unfold Lib.joinTail;simp
def Le(L:List (List UInt8))(n d:Option Int)(t:List UInt8):Option (Int×Int) :=
 if JL L=1 then(match n with|some x=>if D' (x,1)=t then some (x,1) else none|none=>none)
 else if JL L=2 then(match n,d with|some x,some y=>if D' (x,y)=t then some (x,y) else none|_,_=>none) else none
def Ky(t:List UInt8):Option (Int×Int):=Le (DR 47 t) (di ((DR 47 t)[0]?.getD [])) (di ((DR 47 t)[1]?.getD [])) t
structure St  where
 p:Int
 V:o3
 X:l7
def fG:List UInt8:=[119,104,97,116]
def Nw:List UInt8:=[110,111]
def Zs:List UInt8:=[111,107]
def jn(s:St)(k:Int):St×List UInt8:=if 1<=k/\k<=5 then(⟨k,List.replicate (cN k.toNat) 0,[]⟩,Zs) else(s,Nw)
def ft(s:St)(c w:List UInt8):St×List UInt8 :=
 match Ja c,di w with
 | some t,some v=>if 1<=t/\t<JL s.V/\ak s.p (s.V.set t v)=true then(⟨s.p,s.V.set t v,[]⟩,Zs) else(s,Nw)
 | _,_=>(s,Nw)
def jU(s:St)(k:Int):St×List UInt8:=if WZ k=[] then(s,Nw) else(⟨Gq k,Ge k,[]⟩,Zs)
def ME(L:List (List UInt8)):Option (l7):=LE (λk=>Ky (L[k]?.getD [])) L.length
def fW(s:St)(L:List (List UInt8)):St×List UInt8 :=
 match ME L with
 | none=>(s,Nw)
 | some X=>(⟨s.p,s.V,X⟩,if EG s.p s.V X=true then [121,101,115] else [115,117,109])
def dN(s:St)(X:l7)(ok:Bool):St×List UInt8:=if ok=true then(⟨s.p,s.V,X⟩,Qi X) else(s,Nw)
def So(t:List UInt8):Nat :=
 if t=[115,104,97,112,108,101,121] then 0 else if t=[98,97,110,122,104,97,102] then 1 else if t=[108,101,97,115,116] then 2 else if t=[110,117,99,108,101,111,108,117,115] then 3 else if t=[99,111,114,101] then 4 else if t=[99,104,101,99,107] then 5 else if t=[119,111,114,115,116] then 6 else if t=[112,114,111,112,101,114,116,105,101,115] then 7 else if t=[115,104,111,119] then 8 else 9
def w9(t:List UInt8):((bs t).toList == [115,104,97,112,108,101,121])=(So t == 0)/\((bs t).toList == [98,97,110,122,104,97,102])=(So t == 1)/\((bs t).toList == [108,101,97,115,116])=(So t == 2)/\((bs t).toList == [110,117,99,108,101,111,108,117,115])=(So t == 3)/\((bs t).toList == [99,111,114,101])=(So t == 4)/\((bs t).toList == [99,104,101,99,107])=(So t == 5)/\((bs t).toList == [119,111,114,115,116])=(So t == 6)/\((bs t).toList == [112,114,111,112,101,114,116,105,101,115])=(So t == 7)/\((bs t).toList == [115,104,111,119])=(So t == 8):=by
 rw[cY];unfold So;have E:∀(x y:List UInt8),(x == y)=decide (x=y):=λx y=>by rw[yy];simp
 simp only[E];by_cases h0:t=[115,104,97,112,108,101,121]
 ·subst h0;decide
 rw[f7 h0];by_cases h1:t=[98,97,110,122,104,97,102]
 ·subst h1;decide
 rw[f7 h1];by_cases h2:t=[108,101,97,115,116]
 ·subst h2;decide
 rw[f7 h2];by_cases h:t=[110,117,99,108,101,111,108,117,115]
 ·subst h;decide
 rw[f7 h];by_cases Z:t=[99,111,114,101]
 ·subst Z;decide
 rw[f7 Z];by_cases Q:t=[99,104,101,99,107]
 ·subst Q;decide
 rw[f7 Q];by_cases K:t=[119,111,114,115,116]
 ·subst K;decide
 rw[f7 K];by_cases H:t=[112,114,111,112,101,114,116,105,101,115]
 ·subst H;decide
 rw[f7 H];by_cases G:t=[115,104,111,119]
 ·subst G;decide
 rw[f7 G];exact⟨Ok h0,Ok h1,Ok h2,Ok h,Ok Z,Ok Q,Ok K,Ok H,Ok G⟩
def oM(t:List UInt8):So t<=9:=by
 unfold So
 repeat' split
 all_goals decide
def AV{t:List UInt8}(h:(32:UInt8)∈t):So t=9:=by
 unfold So;rw[f7 (λe=>by rw[e]at h;exact absurd h Fd)];rw[f7 (λe=>by rw[e]at h;exact absurd h Fd)];rw[f7 (λe=>by rw[e]at h;exact absurd h Fd)];rw[f7 (λe=>by rw[e]at h;exact absurd h Fd)];rw[f7 (λe=>by rw[e]at h;exact absurd h Fd)];rw[f7 (λe=>by rw[e]at h;exact absurd h Fd)];rw[f7 (λe=>by rw[e]at h;exact absurd h Fd)];rw[f7 (λe=>by rw[e]at h;exact absurd h Fd)];rw[f7 (λe=>by rw[e]at h;exact absurd h Fd)]
def eA(w:List UInt8)(ok:Bool):List UInt8:=if ok=true then w else [45]
def iC(s:St):Int:=fd (ak s.p s.V) (bu s.p s.V) (bG az (dM s.p.toNat (JL s.V)) (dY s.p.toNat) (aW s.V))
def jx(s:St):l7:=aS (bu s.p s.V) (bG az (dM s.p.toNat (JL s.V)) (dY s.p.toNat) (aW s.V))
def nz(s:St):List UInt8 :=
 eA [99,111,114,101] (fE s.p s.V s.X)++([32]++(eA [102,97,105,114] (ak s.p s.V&&decide (fP s.p s.V=s.X))++([32]++eA [110,117,99,108,101,111,108,117,115] (ji s.p s.V s.X))))
def oF(s:St):List UInt8:=match fA s.p s.V s.X with
 | none=>Nw
 | some r=>Lib.join (D' r.1::r.2.map λc=>bJ c) [32]
def lq(s:St):List (List UInt8):=(if dd 1 s.p s.V=true then [[109,111,110,111,116,111,110,101]] else [])++((if dd 2 s.p s.V=true then [[115,117,112,101,114,97,100,100,105,116,105,118,101]] else [])++(if dd 3 s.p s.V=true then [[99,111,110,118,101,120]] else []))
def rP(s:St):List UInt8:=if lq s=[] then [110,111,110,101] else Lib.join (lq s) [32]
def Sg(s:St):List UInt8:=Lib.join (DR 10 (if ak s.p s.V=true then ed s.p.toNat s.V else [])) [59]
def Fz(s:St)(k:Nat):St×List UInt8 :=
 match k with
 | 0=>dN s (fP s.p s.V) (ak s.p s.V)
 | 1=>dN s (ig s.p s.V) (ak s.p s.V)
 | 2=>dN s (MG s.p s.V) (Jb s.p s.V)
 | 3=>dN s (Iw s.p s.V).pt (Iw s.p s.V).ok
 | 4=>(if iC s=1 then⟨s.p,s.V,jx s⟩ else s,ij (iC s))
 | 5=>(s,nz s)
 | 6=>(s,oF s)
 | 7=>(s,rP s)
 | 8=>(s,Sg s)
 | _=>(s,fG)
def Lh(s:St)(t:List UInt8):St×List UInt8:=Fz s (So t)
def lg(s:St)(t:List UInt8)(L:List (List UInt8)):St×List UInt8 :=
 if JL L=1 then Lh s t
 else if L[0]?.getD []=UQ then(if 0<=aD (Lib.join (L.drop 1) [32]) 6 then jn s (aD (Lib.join (L.drop 1) [32]) 6) else(s,fG))
 else if L[0]?.getD []=[118,97,108,117,101] then(if JL L=3 then ft s (L[1]?.getD []) (L[2]?.getD []) else(s,fG))
 else if L[0]?.getD []=[101,120,97,109,112,108,101] then(if 0<=aD (Lib.join (L.drop 1) [32]) 6 then jU s (aD (Lib.join (L.drop 1) [32]) 6) else(s,fG))
 else if L[0]?.getD []=[112,97,121,111,102,102] then fW s (L.drop 1)
 else(s,fG)
def dt(s:St)(t:List UInt8):St×List UInt8:=lg s t (DR 32 t)
def Ic(L:List (List UInt8)):Nat->St×List (List UInt8)
 | 0=>(⟨0,[],[]⟩,[])
 | k+1=>((dt (Ic L k).1 (L[k]?.getD [])).1,(Ic L k).2++[(dt (Ic L k).1 (L[k]?.getD [])).2])
abbrev sess(p:Int)(a:l9)(n cap:Nat)(b:l9)(m dap:Nat):arQ:=.agg #[.int .i64 p,GI a n cap,GI b m dap]
def UU{w:J}{p:Int}{a:l9}{n cap:Nat}{V:o3}(h:d9 w a n cap V)(hb:n<=1048576):
 Calls Tryz.prog 49 #[FS p a n cap] w λe w'=>(∃v,e=ar (.agg #[U p,v])/\r' w' w v V)/\C7 w w':=by
 have⟨W,E⟩:=e9 ((w.alloc (QD #[U p,GI a n cap] 31)).alloc (QD #[U 0,d6] 31));have G:=I (show W.heap.size=w.heap.size+2 by rw[E];simp);have H:=show C7 w W by rw[E];exact WU.trans WU
 have c0:W.cell? (O w 0)=some (U p):=by rw[E];simp
 have c1:W.cell? (O w 1)=some (GI a n cap):=by rw[E];simp
 refine Op (show W.heap[w.heap.size+1]?=some (QD #[U 0,d6] 31 (0,0))by rw[E];exact IO j7) (h.ext H) H (r'.D2 W (w+2) (w+2) G.symm (by rw[G.o];exact i8 _)) λDO HI HX HO=>?_;have⟨r8,r9⟩:=h.aq9;have hlt:w.heap.size<W.heap.size:=by rw[G.o];omega
 have Z:w.heap.size+1<W.heap.size:=by rw[G.o];omega
 clear h H;go_in
 go_upto_region 1 with fail;rw[<-E];clear E
 go_region_law (first
  | (refine bU _ rfl (aO _ _ rfl (w+2) (EQ W 0 0) [] rfl (by rw[G.o];exact HO.ext cn) a n cap V rfl ((HI.ext WU).ext cn) m9 (by simp[G.o]) ?_);intro v8 w8 ho hg r7;have XA:=(C7.alloc W (QD #[] 3)).trans cn;have X8:=I ((XA).grown hg (λj hj=>by have:=tu (show some W.heap.size=some j from hj);omega));have c08:=C7.o6 X8.o c0;have hr:=(X8.block _ Z).trans DO.o;have Eb:=SA hr;have Eh:=Kx hr;have Ip:=λk=>mo w8 (w+1) k _ _ hr;obtain⟨a8,n8,p8,rfl,M7⟩:=ho.var;have Mc:=I ho;clear ho hg r7 hr))
 all_goals
  go_wp2;refine Fn (by simp[results,Tryz.results49,go_sem,Eb,Eh]<;>rfl) rfl ⟨⟨_,rfl,?_⟩,?_⟩
  ·have:=Mc.o;rw[Qu]at this;exact(((r'.on this).set j7 _).set j7 _).here.mono j0
  exact((HX.trans X8).store 0 j0 _).store 1 j0 _
