import Derived.Test.YtooiaklfmodcbaaGreatDoorRtAllG61
set_option linter.all false
set_option maxHeartbeats 6000000
set_option maxRecDepth 100000
namespace Go.Proofs.YtooiaklfmodcbaaGreatDoor
open Ending renaming returned->ar
open List renaming length->JL
open Obj renaming cells->QD
open Value renaming slice->GI,bool->bl,string->aE,pointer->aP
open Go.Proofs.Tryz Go.RowKit
variable{σ:Prop}
section
def qc(h:σ:=by simp[results,qq0,go_sem,r0,r1,r2,rf,z0,z1,z2]<;>rfl):σ:=h
def Jq(h:σ:=by simp[results,results86,go_sem,q0,q1,qf]):σ:=h
def Qz(h:σ:=by simp[results,results39,go_sem,q0,q1,qf]):σ:=h
def P6(h:σ:=by simp[results,aB,go_sem,r0,r1,r2,rf,z0,z1,z2]<;>rfl):σ:=h
variable{w w' W:J}{base n m dap r n' cap' m' FL g EM:Nat}{a b a' b':l9}{V:o3}{X:l7}{x y z:arQ}{l:List UInt8}
structure aK(w:J)(base:Nat)(a:l9)(n cap:Nat)(b:l9)(m dap:Nat)(V:o3)(X:l7):Prop where
 v:r' w base (GI a n cap) V
 x:WV w base (GI b m dap) X
theorem aK.ext{cap:Nat}(h:aK w base a n cap b m dap V X)(hx:C7 w w'):aK w' base a n cap b m dap V X:=⟨h.v.ext hx,h.x.ext hx⟩
theorem aK.mono{base':Nat}{cap:Nat}(h:aK w base a n cap b m dap V X)(hb:base'<=base):aK w base' a n cap b m dap V X:=⟨h.v.mono hb,h.x.mono hb⟩
def DJ(w:J)(base:Nat)(e:Ending)(r:St×List UInt8):Prop :=
 ∃a n cap b m dap,e=ar (.tuple #[sess r.1.p a n cap b m dap,aE (bs r.2)])/\aK w base a n cap b m dap r.1.V r.1.X
abbrev C8(w:J)(r:Nat)(x y z:arQ):Prop:=w.heap[r]?=some (QD #[x,y,z] 34 (0,0))
abbrev E'(w:J)(r:Nat)(x y z:arQ):J:=((w.setCell ⟨r,0,none⟩ x).setCell ⟨r,1,none⟩ y).setCell ⟨r,2,none⟩ z
theorem C8.put(h:C8 w r x y z)(x' y' z':arQ):C8 (E' w r x' y' z') r x' y' z':=by
 have G:=cE w r 0 _ _ x' h;have E:=cE _ r 1 _ _ y' G;exact cE _ r 2 _ _ z' E
theorem C8.Ta(h:C8 w r x y z)(z':arQ):C8 (w.setCell (O r 2) z') r x y z':=cE _ r 2 _ _ z' h
theorem C8.c(h:C8 w r x y z):w.cell? (O r 0)=some x/\w.cell? (O r 1)=some y/\w.cell? (O r 2)=some z/\∀k,w.frozen? (O r k)=false:=by
 refine⟨?_,?_,?_,λk=>mo w r k _ _ h⟩<;>rw[aR w r _ _ _ _ h]<;>rfl
theorem aK.put{cap:Nat}(h:aK w base a n cap b m dap V X)(hb:C8 w r x y z)(x' y' z':arQ):aK (E' w r x' y' z') base a n cap b m dap V X:=by
 have E:=cE w r 0 _ _ x' hb;have G:=cE _ r 1 _ _ y' E;exact⟨bg (bg (bg h.v hb Fd) E Fd) G Fd,bg (bg (bg h.x hb Fd) E Fd) G Fd⟩
theorem aK.set2{cap:Nat}(h:aK w base a n cap b m dap V X)(hb:C8 w r x y z)(z':arQ):aK (w.setCell (O r 2) z') base a n cap b m dap V X :=
 ⟨bg h.v hb Fd,bg h.x hb Fd⟩
theorem C7.E'(h:C7 w w')(hr:w.heap.size<=r)(x y z:arQ):C7 w (E' w' r x y z):=((h.store 0 hr x).store 1 hr y).store 2 hr z
section
variable{w W:J}{p:Int}{a b:l9}{n cap m dap:Nat}{V:o3}{X:l7}
structure cq(w W:J)(p:Int)(a:l9)(n cap:Nat)(b:l9)(m dap:Nat):Prop where
 x:C7 w W
 s:C8 W w.heap.size (U p) (GI a n cap) (GI b m dap)
 r:C8 W (w.heap.size+1) (U 0) d6 (d6)
theorem UA(w:J)(p:Int)(a:l9)(n cap:Nat)(b:l9)(m dap:Nat):cq w ((w.alloc (QD #[U p,GI a n cap,GI b m dap] 34)).alloc (QD #[U 0,d6,d6] 34)) p a n cap b m dap :=
 ⟨WU.trans WU,(aZ _ _ _ j7).trans (IO rfl),IO j7⟩
theorem cq.ext{w':J}(h:cq w W p a n cap b m dap)(hx:C7 W w'):cq w w' p a n cap b m dap:=⟨h.x.trans hx,hx.blk h.s,hx.blk h.r⟩
theorem cq.fin{w':J}(h:cq w w' p a n cap b m dap){base:Nat}{a' b':l9}{n' cap' m' FL:Nat}{V':o3}{X':l7}(ho:aK w' base a' n' cap' b' m' FL V' X')(p':Int):
 (E' w' (w+1) (U p') (GI a' n' cap') (GI b' m' FL)).cell? (O (w+1) 0)=some (U p')/\(E' w' (w+1) (U p') (GI a' n' cap') (GI b' m' FL)).cell? (O (w+1) 1)=some (GI a' n' cap')/\(E' w' (w+1) (U p') (GI a' n' cap') (GI b' m' FL)).cell? (O (w+1) 2)=some (GI b' m' FL) /\
   aK (E' w' (w+1) (U p') (GI a' n' cap') (GI b' m' FL)) base a' n' cap' b' m' FL V' X'/\C7 w (E' w' (w+1) (U p') (GI a' n' cap') (GI b' m' FL)) :=
 let⟨c0,c1,c2,_⟩:=(h.r.put (U p') (GI a' n' cap') (GI b' m' FL)).c
 ⟨c0,c1,c2,ho.put h.r _ _ _,h.x.E' (b7 _) _ _ _⟩
theorem cq.Eg{w':J}(h:cq w w' p a n cap b m dap){base:Nat}{a' b':l9}{n' cap' m' FL:Nat}{V':o3}{X':l7}(ho:aK w' base a' n' cap' b' m' FL V' X')(p':Int):
 (E' w' (w+1) (U p') (GI a' n' cap') (GI b' m' FL)).cell? (O (w+1) 0)=some (U p')/\(E' w' (w+1) (U p') (GI a' n' cap') (GI b' m' FL)).cell? (O (w+1) 1)=some (GI a' n' cap')/\(E' w' (w+1) (U p') (GI a' n' cap') (GI b' m' FL)).cell? (O (w+1) 2)=some (GI b' m' FL) /\
   b9 (aK (E' w' (w+1) (U p') (GI a' n' cap') (GI b' m' FL)) base a' n' cap' b' m' FL V' X')/\b9 (C7 w (E' w' (w+1) (U p') (GI a' n' cap') (GI b' m' FL))):=h.fin ho p'
abbrev Sw(w:J)(r:Nat)(x y z:arQ):Prop:=w.cell? ⟨r,0,none⟩=some x/\w.cell? ⟨r,1,none⟩=some y/\w.cell? ⟨r,2,none⟩=some z/\∀k,w.frozen? ⟨r,k,none⟩=false
theorem fR(p:Int){base:Nat}{V:o3}{X:l7}(h:aK w base a n cap b m dap V X):∃W,W=(w.alloc (QD #[U p,GI a n cap,GI b m dap] 34)).alloc (QD #[U 0,d6,d6] 34)/\b9 (cq w W p a n cap b m dap)/\b9 (aK W base a n cap b m dap V X) /\
 Sw W w (U p) (GI a n cap) (GI b m dap)/\Sw W (w+1) (U 0) d6 (d6) :=
 let T:=UA w p a n cap b m dap
 ⟨_,rfl,T,h.ext T.x,T.s.c,T.r.c⟩
theorem lA(p:Int){V:o3}{X:l7}(G:d9 w a n cap V)(E:i6 w b m dap X):∃W,W=(w.alloc (QD #[U p,GI a n cap,GI b m dap] 34)).alloc (QD #[U 0,d6,d6] 34)/\b9 (cq w W p a n cap b m dap)/\b9 (d9 W a n cap V)/\b9 (i6 W b m dap X)/\b9 (w.heap.size<=W.heap.size) /\
 Sw W w (U p) (GI a n cap) (GI b m dap)/\Sw W (w+1) (U 0) d6 (d6) :=
 let T:=UA w p a n cap b m dap
 ⟨_,rfl,T,G.ext T.x,E.ext T.x,T.x.size,T.s.c,T.r.c⟩
theorem Uz{w':J}{base:Nat}{V:o3}{X:l7}(T:b9 (cq w W p a n cap b m dap)){a' b':l9}{n' cap' m' FL:Nat}(h:b9 (aK W base a' n' cap' b' m' FL V X))(hx:C7 W w'):b9 (cq w w' p a n cap b m dap)/\b9 (aK w' base a' n' cap' b' m' FL V X) /\
 Sw w' w (U p) (GI a n cap) (GI b m dap)/\Sw w' (w+1) (U 0) d6 (d6) :=
 let T:=T.ext hx
 ⟨T,h.out.ext hx,T.s.c,T.r.c⟩
theorem kQ{w w':J}{b:Nat}(h:w'.heap[b]?=w.heap[b]?)(o:Nat):w'.cell? (O b o)=w.cell? (O b o):=by unfold World.cell?;simp only[h]
theorem iI{w w':J}(h:cq w w' p a n cap b m dap){x' y' z':arQ}(hx:C7 w (E' w' (w+1) x' y' z')):
 (E' w' (w+1) x' y' z').cell? (O w 0)=some (U p)/\(E' w' (w+1) x' y' z').cell? (O w 1)=some (GI a n cap)/\(E' w' (w+1) x' y' z').cell? (O w 2)=some (GI b m dap)/\C7 w (E' w' (w+1) x' y' z'):=by
 obtain⟨c0,c1,c2,_⟩:=h.s.c;have k:∀o,(E' w' (w+1) x' y' z').cell? (O w o)=w'.cell? (O w o):=λo=>kQ (by
  rw[GE _ _ _ _ j7,GE _ _ _ _ j7,GE _ _ _ _ j7]) o
 exact⟨(k 0).trans c0,(k 1).trans c1,(k 2).trans c2,hx⟩
theorem zv(hV:d9 w a n cap V)(hX:i6 w b m dap X)(hn:n<=1048576)(hm:m<=1048576):
 Calls prog 24 #[sess p a n cap b m dap] w λe w'=>(∃a' n' cap' b' m' FL,e=ar (sess p a' n' cap' b' m' FL)/\aK w' w a' n' cap' b' m' FL V X)/\C7 w w':=by
 have T:=UA w p a n cap b m dap;have⟨W,hW⟩:=e9 ((w.alloc (QD #[U p,GI a n cap,GI b m dap] 34)).alloc (QD #[U 0,d6,d6] 34));rw[<-hW]at T;refine t8 T (hV.ext T.x) (hX.ext T.x) λG HV HX=>?_;obtain⟨c0,c1,c2,_⟩:=T.s.c;clear T hV hX;go_in
 go_upto_region 1 with fail;rw[<-hW];clear hW;have E:=C7.drew W;have HK:=I (λ(w':J) (hx:C7 W w')=>(⟨hx.o6 c0,hx.o6 c1,hx.o6 c2,G.x.trans hx⟩:w'.cell? (O w 0)=some (U p)/\w'.cell? (O w 1)=some (GI a n cap)/\w'.cell? (O w 2)=some (GI b m dap)/\C7 w w'));clear c0 c1 c2;refine mc HK E λH=>?_
 refine mq ⟨?_⟩;refine tk 3 ?_;refine tk 4 ?_;refine tk 5 ?_;refine tk 8 ?_;refine tk 9 ?_;refine rd 6 λK hK=>?_;go_simp
 (go_at_call 54;refine E9 (jI (HV.ext E) j0) λw3 v3 EV B5=>?_;obtain⟨a3,n3,c3,rfl,LK⟩:=EV.var;have B9:=I (EV.mono (G.x.trans E).size);have E:=E.trans B5;clear EV B5)
 go_wp2_with fail;refine KO (HK _ E) λH=>?_;refine tk 7 ?_;refine rd 10 λK hK=>?_;go_simp
 (go_at_call 55;refine E9 (lX (HX.ext E) j0) λw4 v4 Hd DN=>?_;obtain⟨a4,Z,c4,rfl,Ys⟩:=Hd.var;have HO:b9 (aK w4 w a3 n3 c3 a4 Z c4 V X):=I ⟨B9.ext DN,Hd.mono (G.x.trans E).size⟩;have E:=E.trans DN;clear Hd DN)
 go_wp2_with fail;refine KO (HK _ E) λH=>?_;refine tk 11 ?_;have T2:=G.ext E;have⟨r0,r1,r2,rf⟩:=T2.r.c;have⟨q0,q1,q2,ho,hx⟩:=T2.fin HO.o p;have hS:=iI T2 hx (x':=U p) (y':=GI a3 n3 c3) (z':=GI a4 Z c4);refine rd 12 λK hK=>?_;go_simp;refine KO hS λH=>?_;refine Pi j8 ?_ _;go_wp2;refine Fn (v:=sess p a3 n3 c3 a4 Z c4) (by simp[results,results24,go_sem,r0,r1,r2,rf]) rfl ⟨⟨_,_,_,_,_,_,rfl,ho⟩,hx⟩
theorem hU(hV:d9 w a n cap V)(hX:i6 w b m dap X)(hn:n<=1048576)(hm:m<=1048576):
 Calls prog 22 #[sess p a n cap b m dap] w λe w'=>(∃a' n' cap' b' m' FL,e=ar (sess p a' n' cap' b' m' FL)/\aK w' w a' n' cap' b' m' FL V X)/\C7 w w':=by
 have T:=UA w p a n cap b m dap;have⟨W,hW⟩:=e9 ((w.alloc (QD #[U p,GI a n cap,GI b m dap] 34)).alloc (QD #[U 0,d6,d6] 34));rw[<-hW]at T;refine t8 T (hV.ext T.x) (hX.ext T.x) λG HV HX=>?_;obtain⟨c0,c1,c2,_⟩:=T.s.c;clear T hV hX;go_in
 go_upto_region 1 with fail;rw[<-hW];clear hW;have E:=C7.drew W;have HK:=I (λ(w':J) (hx:C7 W w')=>(⟨hx.o6 c0,hx.o6 c1,hx.o6 c2,G.x.trans hx⟩:w'.cell? (O w 0)=some (U p)/\w'.cell? (O w 1)=some (GI a n cap)/\w'.cell? (O w 2)=some (GI b m dap)/\C7 w w'));clear c0 c1 c2;refine mc HK E λH=>?_
 refine tk 0 ?_;refine tk 1 ?_;refine tk 3 ?_;refine tk 4 ?_;refine rd 2 λK hK=>?_;go_simp
 (go_at_call 49;refine PP (UU (p:=p) (HV.ext E) hn) λw3 v3 EV B5=>?_;obtain⟨a3,n3,c3,rfl,LK⟩:=EV.var;have B9:=I (EV.mono (G.x.trans E).size);have E:=E.trans B5;clear EV)
 go_wp2_with fail;refine KO (HK _ E) λH=>?_;refine rd 5 λK hK=>?_;go_simp
 (go_at_call 47;refine PP (ja (HX.ext E) j0) λw4 v4 Hd DN=>?_;obtain⟨a4,Z,c4,rfl,Ys⟩:=Hd.var;have HO:b9 (aK w4 w a3 n3 c3 a4 Z c4 V X):=I ⟨B9.ext DN,Hd.mono (G.x.trans E).size⟩;have E:=E.trans DN;clear Hd)
 go_wp2_with fail;refine KO (HK _ E) λH=>?_;refine tk 6 ?_;have T2:=G.ext E;have⟨r0,r1,r2,rf⟩:=T2.r.c;have⟨q0,q1,q2,ho,hx⟩:=T2.fin HO.o p;have hS:=iI T2 hx (x':=U p) (y':=GI a3 n3 c3) (z':=GI a4 Z c4);refine rd 7 λK hK=>?_;go_simp;refine KO hS λH=>?_;refine Pi j8 ?_ _;go_wp2;refine Fn (v:=sess p a3 n3 c3 a4 Z c4) (by simp[results,results22,go_sem,r0,r1,r2,rf]) rfl ⟨⟨_,_,_,_,_,_,rfl,ho⟩,hx⟩
end
theorem pH(h:JL l<1∨m<JL l):aD l m=-1:=by unfold aD;rw[f7 j0]
theorem Bl(h:1<JL l)(G:l[0]?=some 48):aD l m=-1:=by
 unfold aD;rw[f7 (λg=>by rcases g.2.1 with E|E;omega;exact E G)]
theorem Dc{k:Nat}{c:UInt8}(E:l[k]?=some c)(hc:dh c=false):aD l m=-1:=by
 unfold aD;rw[f7 (λg=>by
  have:=gy.1 g.2.2 c (RU E);rw[hc]at this;cases this)]
theorem Db(K:1<=JL l)(H:JL l<=m)(G:JL l<=1∨l[0]?≠some 48)(E:(l.take (JL l)).all dh=true):aD l m=(Ep (l.take (JL l)):Int):=by
 rw[cT]at *;unfold aD;rw[f9 ⟨⟨K,H⟩,G,E⟩]
def Ra(h:σ:=by
 have HR:=I (pH (l:=l) (m:=m) j0);clear hs;go_in
 go_wp2;go_ret;exact⟨au HR.symm,rfl⟩
 ):σ:=h
def QB(h:σ:=by
 go_wp2_with fail;refine er ?_;exact⟨k+1,I (k8 HK.o),by rw[HVN.o];go_num,by go_num,HAN,I rfl⟩
 ):σ:=h
def Mh(h:σ:=by
 clear hne;go_wp2;go_meet;exact⟨by rw[Ok j0],rfl⟩
 ):σ:=h
theorem kB(l:List UInt8)(m:Nat)(hm:m<=12):
 Calls prog 154 #[aE (bs l),U m] w λe w'=>e=ar (U (aD l m))/\w'=w:=by
 have⟨t,ht⟩:=e9 (bs l);have hs:t.size=JL l:=by rw[ht,aY]
 have HS:=I hs;have HAT:=I (show∀(k:Nat) (h:k<t.size),t[k]=l[k]?.getD 0 by subst ht;intro k h;exact qO h);rw[<-ht];clear ht;by_cases h1:t.size<1
 ·exact Ra
 by_cases h2:m<t.size
 ·exact Ra
 have Z:1<=JL l:=j0;have⟨c0,D1⟩:=e9 (l[0]?.getD 0);have e0:l[0]?=some c0:=by rw[D1,Id j0];rfl
 have HQ:∀h:0<t.size,t[0]=c0:=λh=>by rw[HAT.o 0 h,D1]
 by_cases K:1<t.size/\c0=48
 ·obtain⟨K,h4⟩:=K;have HR:=I (Bl (l:=l) (m:=m) j0 (by rw[e0,h4]));rw[h4]at HQ;clear hs Z D1 e0 h4;go_in
  go_wp2;go_ret;exact⟨au HR.symm,rfl⟩
 have HC:=I (show JL l<=1∨l[0]?≠some 48 by
  rcases Sy 1 t.size with G|G
  ·right;intro e;rw[e0,bq]at e;exact K ⟨G,e⟩
  left;omega)
 have hne:1<t.size->((c0.toNat:Int) == 48)=false:=λG=>by
  have:c0≠48:=λe=>K ⟨G,e⟩
  have h6:c0.toNat≠48:=λe=>this (Zm.1 (by rw[e];rfl))
  simp;omega
 clear K;have HB:=I (show t.size<=12 by omega);clear D1 e0 hs Z;go_in
 go_upto_region 1 with fail
 go_cut [25] (λv wx=>v=bl false/\b9 (w=wx))
 case first =>
  by_cases G:1<t.size
  ·have hnf:=hne G;exact Mh
  exact Mh
 obtain⟨rfl,hw⟩:=hcut;obtain rfl:=hw.out;clear hw hne HQ;go_wp2
 go_loopg [5,6] t.size (λgk nn ii wr=>∃(k:Nat),b9 (gk+k=t.size)/\nn=U (Ep (l.take k):Int)/\ii=U k/\b9 ((l.take k).all dh=true)/\b9 (w=wr))
 ·exact⟨0,I rfl,rfl,rfl,I rfl,I rfl⟩
 obtain⟨k,HK,rfl,rfl,HA,HW⟩:=hrel;obtain rfl:=HW.o;have⟨v,HV⟩:=GT (Ep (l.take k));rw[<-HV.o];have IG:=I (show v<1000000000000 by rw[HV.o];exact uY (m:=t.size) HA.o (k8 HK.o) HB);by_cases hk:k<t.size
 ·have⟨c,hc⟩:=e9 (l[k]?.getD 0);have hkc:∀h:k<t.size,t[k]=c:=λh=>by rw[HAT.o k h,hc]
  have e1:l[k]?=some c:=by rw[hc,Id (by rw[<-HS.o];exact hk)];rfl
  have HE:=I e1;clear hc e1;by_cases H:dh c=true
  ·have F9:=I (fQ HE);unfold dh at H;rw[ef]at H;obtain⟨d,E⟩:∃d,c.toNat=d+48:=⟨c.toNat-48,by omega⟩;have hd9:d<=9:=by omega
   have FG:=IG.o;have Q0:IntKind.u8.wrap (((d+48:Nat):Int)-48)=(d:Int):=by rw[Zw];omega
   have hci:(c.toNat:Int)=((d+48:Nat):Int):=by rw[E]
   have HVN:=I (show Ep (l.take (k+1))=10*v+d by rw[F9.o,jE,<-HV.o,E];omega);have HAN:=I (show(l.take (k+1)).all dh=true by rw[F9.o,tn,HA.o];simp[dh,E,hd9]);exact QB
  have HR:=I (Dc (m:=m) HE.o (by simpa using H));unfold dh at H;rw[ef]at H;rcases Sy c.toNat 48 with h6|h6
  ·go_wp2;go_ret;exact⟨au HR.symm,rfl⟩
  have h7:57<c.toNat:=j0;go_wp2;go_ret;exact⟨au HR.symm,rfl⟩
 have Qx:k=t.size:=k8 HK.o;have HR:=I (show aD l m=(v:Int)by
  have e:JL l=k:=by rw[Qx,HS.o]
  rw[HV.o,<-e];exact Db TT TT HC.o (by rw[e];exact HA))
 go_wp2;go_ret;exact⟨au HR.symm,rfl⟩
theorem BH(l:List UInt8):Lib.trimPrefix l [45]=if l[0]?=some 45 then l.drop 1 else l:=by
 cases l with
 | nil=>rfl
 | cons c r =>
   by_cases hc:c=45
   ·subst hc;rfl
   rw[f7 (by simpa using hc)];simp[Lib.trimPrefix,Lib.hasPrefix,hc,yx hc]
def Qe(h:σ:=by
 go_wp2_with fail;refine HD.mono ?_;rintro e w1 ⟨rfl,rfl⟩;go_wp2;go_ret2;exact⟨rfl,rfl⟩
 ):σ:=h
theorem mX(l:List UInt8):Calls prog 77 #[aE (bs l)] w λe w'=>e=ar (.tuple #[U (if 0<=aD l 6 then aD l 6 else 0),bl (decide (0<=aD l 6))])/\w'=w:=by
 have HD:=I (kB (w:=w) l 6 j0);have⟨v,E⟩:=e9 (aD l 6);rw[<-E]at HD;rw[<-E];by_cases G:0<=v
 ·rw[f9 G,UV G];have H:max v 0=v:=by omega
  clear E;go_in
  exact Qe
 rw[f7 G,Ok G];have H:max v 0=0:=j0;clear E;go_in
 go_wp2_with fail;refine HD.mono ?_;rintro e w1 ⟨rfl,rfl⟩;go_wp2;go_ret2;refine⟨?_,rfl⟩;show ar (.tuple #[U 0,bl (decide (0<=v))])=_;rw[Ok j0]
theorem Va(l:List UInt8)(hm:m<=12):-1<=aD l m/\aD l m<1000000000000:=by
 unfold aD;split
 ·next h =>
  have h2:=tP l h.2.2;have h3:10^JL l<=10^12:=W7 Fd j0;omega
 omega
def Tg(h:σ:=by
 rw[qq0 h1]at HR;rw[HR.o];go_in
 go_wp2_with fail;refine Fh.mono ?_;rintro e w1 ⟨rfl,rfl⟩;go_wp2_with fail;refine HD.mono ?_;rintro e w1 ⟨rfl,rfl⟩;go_wp2_with fail
 all_goals
  go_ret2
  first|exact⟨rfl,rfl⟩|exact⟨by rw[show v=0 by omega];rfl,rfl⟩
 ):σ:=h
theorem mj(l:List UInt8):Calls prog 81 #[aE (bs l)] w λe w'=>e=ar (.tuple #[U ((di l).getD 0),bl (di l).isSome])/\w'=w:=by
 have H:=Any.strings_TrimPrefix VE (bs l) ⟨#[45]⟩ w;have e:Lib.trimPrefix (bs l).data.toList (⟨#[45]⟩:ByteArray).data.toList=if l[0]?=some 45 then l.drop 1 else l:=BH l
 rw[e]at H;clear e;by_cases E:l[0]?=some 45
 ·rw[f9 E]at H;have HD:=I (kB (w:=w) (l.drop 1) 12 j0);have HR:=I (show di l=if 1<=aD (l.drop 1) 12 then some (-(aD (l.drop 1) 12)) else none by unfold di;rw[f9 E]);have⟨v,Q⟩:=e9 (aD (l.drop 1) 12);rw[<-Q]at HD HR;have K:((bs (l.drop 1)).toList == (bs l).toList)=false:=by
   rw[cY,cY,nx];intro e;have:=If List.length e;rw[Lr]at this;have h2:=(O2.1 E).1;omega
  have hb:=Va (l.drop 1) (m:=12) j0;rw[<-Q]at hb;have HW:=I (show wrap64 (-v)=-v by unfold wrap64;omega);have⟨t1,Og⟩:=e9 (bs (l.drop 1));have⟨t,G⟩:=e9 (bs l);have Fh:=I (show Calls prog 155 #[aE t,aE ⟨#[45]⟩] w (λe w'=>e=ar (aE t1)/\w'=w)by rw[G,Og];exact H);clear H;rw[<-Og]at HD K;rw[<-G]at K;rw[<-G];clear G Og Q E hb;by_cases h1:1<=v
  ·rw[f9 h1]at HR;rw[HR.o];go_in
   go_wp2_with fail;refine Fh.mono ?_;rintro e w1 ⟨rfl,rfl⟩;go_wp2_with fail;refine HD.mono ?_;rintro e w1 ⟨rfl,rfl⟩;go_wp2;go_ret2;refine⟨?_,rfl⟩;show ar (.tuple #[U (wrap64 (-v)),bl true])=_;rw[HW.o];rfl
  have qq0:=@f7;exact Tg
 rw[f7 E]at H;have HD:=I (kB (w:=w) l 12 j0);have HR:=I (show di l=if 0<=aD l 12 then some (aD l 12) else none by unfold di;rw[f7 E]);generalize aD l 12=v at HD HR;have⟨t,G⟩:=e9 (bs l);have Fh:=I (show Calls prog 155 #[aE t,aE ⟨#[45]⟩] w (λe w'=>e=ar (aE t)/\w'=w)by rw[G];exact H);clear H;rw[<-G]at HD;rw[<-G];clear G E;by_cases h1:0<=v
 ·have qq0:=@f9;exact Tg
 rw[f7 h1]at HR;rw[HR.o];go_in
 go_wp2_with fail;refine Fh.mono ?_;rintro e w1 ⟨rfl,rfl⟩;exact Qe
def Mp(h:σ:=by
 rintro e w1 ⟨rfl,hx⟩;have HX:=I hx;clear hx;go_wp2;go_ret2;exact⟨rfl,HX⟩
 ):σ:=h
def Y4(h:σ:=by
 have HR:=I (show R=none by rw[Kk.o,f7 (by rw[<-HSD.o];omega)]);obtain rfl:=HR.o;go_wp2;go_ret2;exact⟨rfl,WF⟩
 ):σ:=h
theorem xR(l:List UInt8)(m:Nat)(hm:m<=12):
 f8 31 #[aE (bs l),U m] w (.tuple #[U ((gT l m).getD 0),bl (gT l m).isSome]):=by
 obtain⟨b,hb⟩:∃b:Bool,b=decide (l[0]?=some 45):=⟨_,rfl⟩;have⟨E,H⟩:=e9 (if l[0]?=some 45 then l.drop 1 else l);have Kk:=I (show gT l m=if(1<=JL E/\JL E<=m)/\E.all dh=true/\Lib.itoa (if b=true then -(Ep E:Int) else(Ep E:Int))=l then some (if b=true then -(Ep E:Int) else(Ep E:Int)) else none by
  by_cases h:l[0]?=some 45
  ·rw[hb,H];unfold gT;simp[h]
  rw[hb,H];unfold gT;simp[h])
 have Mf:=I (show E=if b=true then l.drop 1 else l by rw[H,hb];simp);have J1:=I hb;have⟨R,hR⟩:=e9 (gT l m);rw[<-hR]at Kk;rw[<-hR];clear hR hb H;have⟨t,ht⟩:=e9 (bs l);have⟨td,Q4⟩:=e9 (bs E);refine z6 ht Q4 (show t.size=JL l by rw[ht,aY]) (show td.size=JL E by rw[Q4,aY]) (show∀(k:Nat) (h:k<t.size),t[k]=l[k]?.getD 0 by subst ht;intro k h;exact qO h) (show∀(k:Nat) (h:k<td.size),td[k]=E[k]?.getD 0 by subst Q4;intro k h;exact qO h) λHT HTD HS HSD HAT HAD=>?_;rw[<-ht];clear ht Q4;unfold f8;go_in
 go_upto_region 1 with fail
 go_cut [6] (λv wx=>v=bl b/\b9 (w=wx))
 case first =>
  by_cases h0:0<t.size
  ·have⟨c0,D1⟩:=e9 (l[0]?.getD 0);have hix:∀h:0<t.size,t[0]=c0:=λh=>by rw[HAT.o 0 h,D1]
   have Fy:=I (show((c0.toNat:Int) == 45)=b by
    rw[J1.o,D1,Id (by rw[<-HS.o];exact h0)];simp only[Nm,bq];rw[yy];simp only[xv,ef];constructor
    ·intro e;exact Zm.1 (by rw[show(45:UInt8).toNat=45 from rfl];omega)
    intro e;rw[e];rfl)
   clear D1;go_wp2;go_meet;exact⟨by rw[Fy.o],rfl⟩
  have Fy:=I (show b=false by
   rw[J1.o,q8 TT];rfl)
  go_wp2;go_meet;exact⟨by rw[Fy.o],rfl⟩
 obtain⟨rfl,hw⟩:=hcut;obtain rfl:=hw.out;clear hw;go_upto_if 19 with fail
 go_cut [7] (λv wx=>v=aE td/\b9 (w=wx))
 case first =>
  cases b with
  | true =>
    have HE:=I (show t.extract 1 t.size=td by rw[HT.o,XN,HTD.o,Mf.o];rfl);have h1:1<=t.size:=by
     have:=J1.o;rw[eq_comm,ef]at this;have:=(O2.1 this).1;rw[HS.o];omega
    go_wp2;go_meet;exact⟨by rw[HE.o],rfl⟩
  | false =>
    have HE:=I (show t=td by rw[HT.o,HTD.o,Mf.o];rfl);go_wp2;go_meet;exact⟨by rw[HE.o],rfl⟩
 obtain⟨rfl,hw⟩:=hcut;obtain rfl:=hw.out;clear hw;by_cases h1:td.size<1
 ·exact Y4
 by_cases h2:m<td.size
 ·exact Y4
 have HB:=I (show td.size<=12 by omega);go_wp2
 go_loopg [8,9] td.size (λgk nn ii wr=>∃(k:Nat),b9 (gk+k=td.size)/\nn=U (Ep (E.take k):Int)/\ii=U k/\b9 ((E.take k).all dh=true)/\b9 (w=wr))
 ·exact⟨0,I rfl,rfl,rfl,I rfl,I rfl⟩
 obtain⟨k,HK,rfl,rfl,HA,HW⟩:=hrel;obtain rfl:=HW.o;have⟨v,HV⟩:=GT (Ep (E.take k));rw[<-HV.o];have IG:=I (show v<1000000000000 by rw[HV.o];exact uY (m:=td.size) HA.o (k8 HK.o) HB);by_cases hk:k<td.size
 ·have⟨c,hc⟩:=e9 (E[k]?.getD 0);have hkc:∀h:k<td.size,td[k]=c:=λh=>by rw[HAD.o k h,hc]
  have e1:E[k]?=some c:=by rw[hc,Id (by rw[<-HSD.o];exact hk)];rfl
  have HE:=I e1;clear hc e1;by_cases hd:dh c=true
  ·have F9:=I (fQ HE);unfold dh at hd;rw[ef]at hd;obtain⟨d,hdd⟩:∃d,c.toNat=d+48:=⟨c.toNat-48,by omega⟩;have hd9:d<=9:=by omega
   have FG:=IG.o;have Q0:IntKind.u8.wrap (((d+48:Nat):Int)-48)=(d:Int):=by rw[Zw];omega
   have hci:(c.toNat:Int)=((d+48:Nat):Int):=by rw[hdd]
   have HVN:=I (show Ep (E.take (k+1))=10*v+d by rw[F9.o,jE,<-HV.o,hdd];omega);have HAN:=I (show(E.take (k+1)).all dh=true by rw[F9.o,tn,HA.o];simp[dh,hdd,hd9]);exact QB
  have HR:=I (show R=none by
   rw[Kk.o,f7 (λg=>by
    have:=gy.1 g.2.1 c (RU HE);exact hd this)])
  obtain rfl:=HR.o;unfold dh at hd;rw[ef]at hd;rcases Sy c.toNat 48 with h6|h6
  ·go_wp2;go_ret2;exact⟨rfl,WF⟩
  have h7:57<c.toNat:=j0;go_wp2;go_ret2;exact⟨rfl,WF⟩
 have Qx:k=td.size:=k8 HK.o;have e:JL E=k:=by rw[Qx,HSD.o]
 obtain⟨Z,hZ⟩:∃Z:Int,Z=if b=true then -(Ep E:Int) else(Ep E:Int):=⟨_,rfl⟩
 have YM:v=Ep E:=by rw[HV.o,<-e,cT]
 have had:E.all dh=true:=by have:=HA.o;rwa [<-e,cT]at this
 have HR:=I (show R=if Lib.itoa Z=l then some Z else none by
  rw[Kk.o,<-hZ];by_cases G:Lib.itoa Z=l
  ·rw[f9 G,f9 ⟨⟨by omega,by omega⟩,had,G⟩]
  rw[f7 G,f7 λg=>G g.2.2])
 have HZ:=I (show Z=if b=true then -(v:Int) else(v:Int)by rw[hZ,YM]);have FG:=IG.o;clear hZ YM had e Qx;go_upto_if 55 with fail
 go_cut [8] (λv wx=>v=U Z/\b9 (w=wx))
 case first =>
  cases b with
  | true =>
    have HZ2:b9 (Z=-(v:Int)):=HZ;go_wp2;go_meet;exact⟨by rw[HZ2.o],rfl⟩
  | false =>
    have HZ2:b9 (Z=(v:Int)):=HZ;go_wp2;go_meet;exact⟨by rw[HZ2.o],rfl⟩
 obtain⟨rfl,hw⟩:=hcut;obtain rfl:=hw.out;clear hw;have HF:=I (iJ (w:=w) Z (by have:=HZ.o;split at this<;>omega) (by have:=HZ.o;split at this<;>omega));clear FG;by_cases G:Lib.itoa Z=l
 ·have I7:=I (show R=some Z by rw[HR.o,f9 G]);obtain rfl:=I7.o;have K:((bs (Lib.itoa Z)).toList == t.toList)=true:=by rw[HT.o,cY,cY,G];simp
  clear G;generalize bs (Lib.itoa Z)=tz at K HF;go_wp2_with fail;refine HF.mono ?_;exact Mp
 have I7:=I (show R=none by rw[HR.o,f7 G]);obtain rfl:=I7.o;have K:((bs (Lib.itoa Z)).toList == t.toList)=false:=by rw[HT.o,cY,cY];simpa using G
 clear G;generalize bs (Lib.itoa Z)=tz at K HF;go_wp2_with fail;refine HF.mono ?_;exact Mp
theorem mM(l:List UInt8):f8 37 #[aE (bs l)] w (.tuple #[U ((di l).getD 0),bl (di l).isSome]):=by
 have G:=I (xR (w:=w) l 12 j0);rw[Dd]at G;have⟨a,E⟩:=e9 ((di l).getD 0);have⟨b,hb⟩:=e9 ((di l).isSome);rw[<-E,<-hb]at G;rw[<-E,<-hb];clear E hb;unfold f8;go_in
 go_wp2_with fail;refine G.mono ?_;exact Mp
theorem vF(l:List UInt8):f8 14 #[aE (bs l)] w (.tuple #[U (if 0<=aD l 6 then aD l 6 else 0),bl (decide (0<=aD l 6))]):=by
 have E:=I (xR (w:=w) l 6 j0);have hr:=U9 l;have K:=I (show(if 0<=aD l 6 then aD l 6 else 0)=(((gT l 6).bind (λn=>if n<0 then none else some n)).getD 0)/\decide (0<=aD l 6)=((gT l 6).bind (λn=>if n<0 then none else some n)).isSome by
  rw[hr];by_cases h:0<=aD l 6
  ·simp[h]
  simp[h])
 rw[K.1,K.2];clear hr;cases G:gT l 6 with
 | none =>
   rw[G]at E;unfold f8;go_in
   go_wp2_with fail;refine E.mono ?_;exact Mp
 | some n =>
   rw[G]at E;clear G;by_cases H:n<0
   ·rw[show(Option.bind (some n) λn=>if n<0 then none else some n)=none from f9 H];unfold f8;go_in
    go_wp2_with fail;refine E.mono ?_;exact Mp
   rw[show(Option.bind (some n) λn=>if n<0 then none else some n)=some n from f7 H];unfold f8;go_in
   go_wp2_with fail;refine E.mono ?_;exact Mp
theorem ah.other{p q:Int}(h:ah w W g p q){a:Addr}(E:g≠a.block)(hb:w.heap.size<=a.block)(v:arQ):ah w (W.setCell a v) g p q :=
 ⟨h.ext.setCell hb v,h.ge,(GE W a g v E).trans h.cell⟩
theorem ah.grown{G E:J}{p q:Int}(h:ah w W g p q){H:arQ}{l:o3}(ho:r' W base H l)(hx:C7 W G)(hb:w.heap.size<=base)(hg:G.grownBy E H.ownBlock):ah w E g p q :=
 ⟨aj (h.ext.trans hx) hg (λj K=>fy hb (ho.lt j K).1),h.ge,uh hg (hx.blk h.cell) (aq (ho.ext hx) (hx.blk h.cell) Fd)⟩
theorem r'.KS{p q:Int}{v:arQ}{l:o3}(h:r' W base v l)(hb:ah w W g p q)(p' q':Int):r' ((W.setCell (O g 0) (U p')).setCell (O g 1) (U q')) base v l :=
 bg (bg h hb.cell Fd) (cE W g 0 _ _ _ hb.cell) Fd
theorem AD:NE prog 142:=cR func142 j8 j8
theorem ve:NE prog 137:=cR func137 j8 j8
theorem Cq(x y:Int)(w:J):f8 142 #[EF x y] w (bl (decide (0<x))):=by
 unfold f8;go_in
 go_wp2;go_ret;exact⟨ag j7,WU⟩
theorem VW{p:Int}{cap:Nat}(h:d9 w a n cap V)(hx:i6 w b m EM X):
 f8 65 #[FS p a n cap,GI b m EM] w (bl (fE p V X)):=by
 have E:=I (C7.alloc w (QD #[U p,GI a n cap] 31));have Q:=I (iF (p:=p) (h.ext E) (hx.ext E) 0 n ((n:Int)-1) (λ_=>by omega));have HR:=I (Aq p V X);rw[h.hlen]at HR;have⟨A,hA⟩:=e9 (KR p V X 0 n);have⟨Z,hZ⟩:=e9 (fE p V X);rw[<-hA]at Q HR;rw[<-hZ]at HR⊢;have⟨r8,r9⟩:=h.aq9;clear h hx hA hZ;unfold f8;go_in
 go_wp2_with fail;refine PP Q λG v ho hx=>?_;obtain⟨a1,n1,c1,rfl,_⟩:=ho.var;have K:=I (E.trans hx);have HC:=I (gU (p:=λe=>decide (0<e.1)) (ca:=#[]) ho.rats AD (λx y G _=>Cq x y G));clear ho;cases A with
 | none =>
   go_wp2;go_ret;exact⟨ag (by rw[HR.o];rfl),K⟩
 | some L =>
   have⟨B,H⟩:=e9 ((L.any λe=>decide (0<e.1)));simp only[Nm,<-H]at HC HR;clear H;go_wp2_with fail;refine i7 HC λw2 hx=>?_;have X1:=I (K.trans hx);have qq0:=@ag;exact b8
theorem Wq{l:l7}{x y:Int}(h:l[0]?.getD (0,0)=(x,y)):ei l 1=(x,y):=by rw[BP,h]
theorem VB{cap:Nat}{l:l7}(h:i6 w a n cap l)(h0:0<n):
 f8 145 #[GI a n cap,.func (.func 137) #[] #[]] w (EF (ei l n).1 (ei l n).2):=by
 have Tr:∀(args:Array arQ) (w:J),(callFunc 137 args).run prog w=.ok (.enter 137 args) w:=ve;have⟨hn,hm⟩:=h.aq9;have HI:=I h;have⟨b0,o0,x0,y0,e0,KH,d0,d1⟩:=h.at h0;have Y6:=I (Wq KH);subst e0;rw[Nat.zero_mul,RF]at d0 d1;replace d0:=(C7.alloc w (QD #[U 0,U 0] 56)).o6 d0;replace d1:=(C7.alloc w (QD #[U 0,U 0] 56)).o6 d1;clear h KH;have⟨W,hW⟩:=e9 ((w.alloc (QD #[U 0,U 0] 56)).alloc (QD #[U x0,U y0] 56));have EC:=I (show ah w W (w+1) x0 y0 by rw[hW];exact ah.new' WU _ _ j7);have Kk:=I (show ah w W w 0 0 by rw[hW];exact(ah.new WF _ _).grow WU);unfold f8;go_in
 go_upto_region 4 with fail;rw[<-hW];clear hW d0 d1;go_wp2
 go_loopg [6] (n-1) (λgk ii wr=>∃(k:Nat) (bx bz:Int),b9 (gk+k=n)/\ii=U k/\b9 (1<=k)/\b9 (ei l k=(bx,bz))/\b9 (ah w wr (w+1) bx bz)/\b9 (ah w wr w 0 0))
 ·exact⟨1,x0,y0,I j0,rfl,I j0,Y6,EC,Kk⟩
 obtain⟨k,bx,bz,HK,rfl,H1,Un,HB,H⟩:=hrel;have q0:=HB.c0;have q1:=HB.c1;have qf:=HB.free;by_cases hlt:k<n
 ·have⟨b,off,x,y,e,Eo,D1,Eu⟩:=(HI.ext HB.ext).at hlt;obtain⟨rfl,rfl⟩:=aM e;clear e;have G4:=Rd k n;have KN:=ST k;have⟨c,hc⟩:=e9 (DM (x,y) (bx,bz));have Z:=I (show ei l (k+1)=if 0<c then(x,y) else(bx,bz)by rw[ei,Eo,Un.o,hc]);have H6:=I (λw'=>gH x y bx bz w');simp only[<-hc]at H6;refine t8 D1 Eu (λ(w':J) (G:C7 wr w')=>(⟨G.o6 D1,G.o6 Eu,G.o6 q0,G.o6 q1,G⟩:w'.cell? (O b0 (o0+k*2))=some (U x)/\w'.cell? (O b0 (o0+k*2+1))=some (U y)/\w'.cell? (O (w+1) 0)=some (U bx)/\w'.cell? (O (w+1) 1)=some (U bz)/\C7 wr w')) λO9 Sn LM=>?_;have E:=C7.drew wr;clear Eo hc;go_upto_region 7 with fail;refine mc LM E λo9=>?_
  refine mq ⟨?_⟩;refine tk 3 ?_;refine tk 4 ?_;refine tk 5 ?_;refine rd 6 λK hK=>?_;go_simp
  (refine IR (H6 _) λw5 Ey=>?_;have E:=E.trans Ey)
  go_wp2_with fail;refine KO (LM _ E) λo9=>?_;refine tk 7 ?_;refine Pi j8 ?_ _;have Ek:=I (HB.grow E);have JR:=I (H.grow E);have r0:=E.o6 O9.o;have r1:=E.o6 Sn.o;have q0:=Ek.c0;have q1:=Ek.c1;have qf:=Ek.free;clear E D1 Eu;by_cases hc:0<c
  ·have S7:=I (Z.trans (f9 hc));go_wp2_with fail;refine er ?_;exact⟨k+1,x,y,I (k8 HK.o),by go_num,I j0,S7,I (Ek.put _ _),I ((JR.other j7 j7 _).other j7 j7 _)⟩
  have S7:=I (Z.trans (f7 hc));go_wp2_with fail;refine er ?_;exact⟨k+1,bx,bz,I (k8 HK.o),by go_num,I j0,S7,Ek,JR⟩
 have Rb:k=n:=by have:=HK.o;have:=H1.o;omega
 subst Rb;have rf:=H.free;have r0:=H.c0;have r1:=H.c1;go_wp2;refine Fn (v:=.agg #[U bx,U bz]) (by simp[results,results145,go_sem,r0,r1,rf]) rfl ⟨by rw[Un.o],(H.put _ _).ext⟩
def WG(w:J)(base:Nat)(e:Ending)(r:Option ((Int×Int)×o3)):Prop :=
 ∃v,e=ar (.tuple #[EF (r.getD ((0,0),[])).1.1 (r.getD ((0,0),[])).1.2,v,bl r.isSome])/\r' w base v (r.getD ((0,0),[])).2
def JB(h:σ:=by
 go_wp2;refine Fn (v:=.tuple #[.agg #[U 0,U 0],d6,bl false]) (by simp[results,results68,go_sem,q0,q1,qf]) rfl ⟨⟨_,by rw[HZ.o];rfl,by rw[HZ.o];exact C1⟩,(M4.put _ _).ext⟩
 ):σ:=h
def Sj(h:σ:=by
 exact⟨0,_,_,_,I j0,rfl,rfl,I (r'.D2 _ _ _ rfl (i8 _)),I (Ee.grow WU),I (HR1'.grow WU),I WU⟩
 ):σ:=h
theorem vm{p:Int}{cap:Nat}(h:d9 w a n cap V)(hx:i6 w b m EM X):
 Calls prog 68 #[FS p a n cap,GI b m EM] w λe w'=>WG w' w e (fA p V X)/\C7 w w':=by
 have⟨W,hW⟩:=e9 ((w.alloc (QD #[U p,GI a n cap] 31)).alloc (QD #[U 0,U 0] 56));have hX:C7 w W:=by rw[hW];exact WU.trans WU
 have Kk:=I (show ah w W (w+1) 0 0 by rw[hW];exact ah.new' WU _ _ j7);have k0:W.cell? (O w 0)=some (U p):=by rw[hW];exact C7.o6 WU j7
 have k1:W.cell? (O w 1)=some (GI a n cap):=by rw[hW];exact C7.o6 WU j7
 have HE:=iF (p:=p) (h.ext hX) (hx.ext hX) 1 (n-2) ((n:Int)-2) (pV h.hlen);rw[pS h.hlen]at HE;refine t8 HE (show fA p V X=(match ET p V X with|none=>none|some l=>if JL l=0 then none else some (ei l (JL l),eJ l (ei l (JL l)) (JL l)))from rfl) (λ(l:l7) (hl:ET p V X=some l)=>show JL l<=n by have:=(dO hl).2;have:=h.hlen;omega) λHE Z Lz=>?_
 have LK:=I (λ(l:l7) (hl:ET p V X=some l)=>show n<=32 by
  obtain⟨q,_,h1,h5,hlen,_,_⟩:=ap (dU (dO hl).1);have:=bp q h5;have h2:=h.hlen;omega)
 have⟨r8,r9⟩:=h.aq9;have⟨A,hA⟩:=e9 (ET p V X);have⟨R,hR⟩:=e9 (fA p V X);rw[<-hA]at HE Z Lz LK;rw[<-hR]at Z⊢;have DW:=I (show W.heap.size=w.heap.size+2 by rw[hW];simp);clear h hx hA hR hX;go_in
 go_upto_region 1 with fail;rw[<-hW];clear hW;go_wp2_with fail;refine PP HE λw1 v ho hx=>?_;obtain⟨a1,E,c1,rfl,HN⟩:=ho.var;have HO:=I ho.rats;have M4:=I (Kk.grow hx);have hsz:=hx.size;have⟨Lq,Lm⟩:=HO.aq9;clear ho k0 k1 HE;have q0:=M4.c0;have q1:=M4.c1;have qf:=M4.free;cases A with
 | none =>
   have HZ:b9 (R=none):=Z;exact JB
 | some l =>
   have GQ:=LK.o l rfl;have PD:=Lz.o l rfl;have FT:JL l=E:=HN.o;have Hb:=I FT;by_cases h0:E=0
   ·have HZ:=I (show R=none by rw[Z.o];simp only;rw[f9 j0]);subst h0;exact JB
   have hz:((E:Int) == 0)=false:=m9;obtain⟨⟨x,y⟩,Eo⟩:∃r,r=ei l E:=⟨_,rfl⟩;have HM:=I (VB (w:=w1) HO.o j0);simp only[Nm]at HM;rw[<-Eo]at HM;have HZ:=I (show R=some ((x,y),eJ l (x,y) E)by rw[Z.o];simp only;rw[f7 j0,FT,<-Eo]);have hn33:E<=32:=j0;clear Eo PD FT HN q0 q1 qf;go_wp2_with fail;refine i7 HM λw2 hx=>?_;refine Op (show ah w (w2.alloc (QD #[U x,U y] 56)) w2 x y from ah.new (M4.ext.trans hx) x y) ((M4.grow hx).grow (C7.alloc w2 (QD #[U x,U y] 56))) ((HO.ext hx).ext (C7.alloc w2 (QD #[U x,U y] 56))) (show w.heap.size<=w2.heap.size by have:=hx.size;have:=DW.o;omega) λEe HR1' Ec HG=>?_;have⟨w3,E8⟩:=e9 (w2.alloc (QD #[U x,U y] 56));rw[<-E8]at Ee HR1' Ec;go_upto_region 5 with fail;rw[<-E8];clear E8;generalize w2.heap.size=g9 at Ee HG⊢;go_wp2
   go_loopg [10,36] E (λgk ll ii wr=>∃(k:Nat) (K:l9) (H c4:Nat),b9 (gk+k=E)/\ii=U k/\ll=GI K H c4/\b9 (r' wr w3 (GI K H c4) (eJ l (x,y) k))/\b9 (ah w wr g9 x y)/\b9 (ah w wr (w+1) 0 0)/\b9 (C7 w3 wr))
   ·exact Sj
   obtain⟨k,K,H,c4,HK,rfl,rfl,G,FI,IL,Gm⟩:=hrel;have q0:=FI.c0;have q1:=FI.c1;have YU:=FI.lt;by_cases hlt:k<E
   ·have⟨eb,eo,u,v,e,Mm,D1,Eu⟩:=(Ec.ext Gm).at hlt;subst e;simp only[Nm]at Mm;have Rh:=I Mm;have PD:=mH l (x,y) k;have Th:=Gm.size;clear Mm;cases h1:(u == x)
    all_goals
     cases h2:(v == y)
    case true.true =>
     have I8:=I (rK (k:=k) (show l[k]?.getD (0,0)=(x,y)by rw[Rh.o,Sv h1,Sv h2]))
     go_wp2_with (first
      | (at_builtin;refine bK rfl _ _ rfl w3 (GI K H c4) _ rfl ((G.ext WU).ext WU) _ 1 _ [(k:Int)+1] rfl (K4 j7) j0 m9 ?_;intro v9 w9 ho Gt r7;have Mg:=I (FI.grown G.o (WU.trans WU) Ee.ext.size Gt);have Zb:=I (IL.grown G.o (WU.trans WU) Ee.ext.size Gt);have IZ:=I (aj ((Gm.trans WU).trans WU) Gt (λj hj=>(G.lt j hj).1));obtain⟨a9,n9,c9,rfl,N'⟩:=ho.var;have Kx:=I ho;clear ho Gt r7))
     refine er ?_;exact⟨k+1,_,_,_,I (k8 HK.o),by go_num,rfl,I (by rw[I8.o];exact Kx),Mg,Zb,IZ⟩
    all_goals
     have I8:=I (uG (k:=k) (show l[k]?.getD (0,0)≠(x,y)by rw[Rh.o];intro e;have e1:=(Lp e).1;have e2:=(Lp e).2;rw[e1]at h1;rw[e2]at h2;simp at h1 h2));go_wp2_with fail;refine er ?_;exact⟨k+1,_,_,_,I (k8 HK.o),by go_num,rfl,I (by rw[I8.o];exact G.ext WU),I (FI.grow WU),I (IL.grow WU),I (Gm.trans WU)⟩
   have Rb:k=E:=k8 HK.o;subst Rb;have r0:=IL.c0;have r1:=IL.c1;have rf:=IL.free;go_wp2;refine Fn (v:=.tuple #[.agg #[U x,U y],GI K H c4,bl true]) (by simp[results,results68,go_sem,r0,r1,rf]) rfl ⟨⟨_,by rw[HZ.o];rfl,by rw[HZ.o];exact(G.KS IL.o x y).mono Ee.ext.size⟩,(IL.put _ _).ext⟩
end
section
variable{L:List (List UInt8)}{d:Option Int}{t:List UInt8}{w:J}
theorem zQ{x:Int}(h:JL L=1):Le L (some x) d t=if D' (x,1)=t then some (x,1) else none:=by unfold Le;rw[f9 h]
theorem zR{x y:Int}(h:JL L=2):Le L (some x) (some y) t=if D' (x,y)=t then some (x,y) else none:=by unfold Le;rw[f7 j0,f9 h]
theorem zO:Le L none d t=none:=by
 unfold Le;by_cases G:JL L=1
 ·rw[f9 G]
 rw[f7 G];by_cases E:JL L=2
 ·rw[f9 E]
 rw[f7 E]
theorem zP{x:Option Int}(h:JL L=2):Le L x none t=none:=by unfold Le;rw[f7 j0,f9 h];cases x<;>rfl
theorem qu{x:Option Int}(h:2<JL L):Le L x d t=none:=by unfold Le;rw[f7 j0,f7 j0]
theorem sz(l t:List UInt8):((bs l).toList == (bs t).toList)=decide (l=t):=by rw[cY,cY,yy];simp
theorem ah.put1{W:J}{g:Nat}{p q:Int}(h:ah w W g p q)(q':Int):ah w (W.setCell (O g 1) (U q')) g p q' :=
 ⟨h.ext.setCell h.ge _,h.ge,cE W g 1 _ _ _ h.cell⟩
def Kn(h:σ:=by
 have Pk:=TQ.c0;have Pj:=TQ.c1;have Pq:=I (jg (w:=w4) x y (ec HTB.o TQ.ext));have Ju:=I (H6 (D' (x,y)));have⟨tr,FA⟩:=e9 (bs (D' (x,y)));rw[<-FA]at Pq Ju;clear FA;go_wp2_with fail;refine Pq.mono ?_;rintro e w5 ⟨rfl,Ey⟩;have Ek:=I (FI.grow Ey);have Zl:=I (TQ.grow Ey);have q0:=Ek.c0;have q1:=Ek.c1;have qf:=Ek.free;have u0:=Zl.c0;have u1:=Zl.c1;clear Ey Pk Pj Pq;by_cases he:D' (x,y)=t
 ·have K3:(tr.toList == tt.toList)=true:=by rw[Ju.o,UV he]
  have HZ:=I (Kj.trans (f9 he));clear he;go_wp2;refine Fn (v:=.tuple #[.agg #[U x,U y],bl true]) Jq rfl ⟨by rw[HZ.o];rfl,(Ek.put _ _).ext⟩
 ·have K3:(tr.toList == tt.toList)=false:=by rw[Ju.o,Ok he]
  have HZ:=I (Kj.trans (f7 he));clear he;go_wp2;refine Fn (v:=.tuple #[.agg #[U 0,U 0],bl false]) Jq rfl ⟨by rw[HZ.o];rfl,(Ek.put _ _).ext⟩
 ):σ:=h
def Jp(h:σ:=by
 have q0:=HB.c0;have q1:=HB.c1;have qf:=HB.free;go_wp2;refine Fn (v:=.tuple #[.agg #[U 0,U 0],bl false]) Jq rfl ⟨by rw[HZ.o];rfl,(HB.put _ _).ext⟩
 ):σ:=h
theorem AQ {w: J}(t : List UInt8)(ht : JL t <= 1099511627700)(htab : Lib.TabIs Tryz.prog w "internal/strconv.uint64pow10" .u64 Lib.pow10Tab) :
 f8 86 #[aE (bs t)] w (IN ((Ky t).getD (0,0),(Ky t).isSome)):=by
 have HTB:=I htab;have⟨W,hW⟩:=e9 (w.alloc (QD #[U 0,U 0] 56));have QT:=I (show ah w W w 0 0 by rw[hW];exact ah.new WF _ _);have EO:=I (jh (w:=W) t 47 ht);have⟨L,hL⟩:=e9 (DR 47 t);have Fb:=I (show 1<=JL L by rw[hL];exact ip _ _);have⟨R,hR⟩:=e9 (Ky t);have HR:=I (show R=Le L (di (L[0]?.getD [])) (di (L[1]?.getD [])) t by rw[hR,hL];rfl);have H6:=I (λl=>sz l t);rw[<-hR];rw[<-hL]at EO;have⟨tt,Es⟩:=e9 (bs t);simp only[<-Es]at EO H6;rw[<-Es];clear hR hL Es htab;unfold f8;go_in
 go_upto_region 1 with fail;rw[<-hW];clear hW;go_wp2_with fail;refine E9 EO λw1 v ho hx=>?_;obtain⟨a1,n1,c1,rfl,HN1⟩:=ho.var;have Is:=I ho.Hr;have Ee:=I (QT.grow hx);have⟨Lq,Lm⟩:=Is.aq9;have FT:1<=n1:=by have h1:=HN1.o;have h2:=Fb.o;omega
 clear ho hx;obtain⟨lb,lo,x0,rfl,L4,D1⟩:=Is.at (k:=0) j0;have q0:w1.cell? (O lb lo)=some (aE (bs x0)):=by simpa[A9]using D1 0 _ rfl
 have Lb:=I (mj (w:=w1) x0);have Fv:=I HR.o;rw[L4,Nm]at Fv;generalize di x0=r0 at Fv Lb;generalize bs x0=t0 at q0 Lb;clear D1 L4;go_wp2_with fail;refine Lb.mono ?_;rintro e w1' ⟨rfl,rfl⟩;have⟨x,Ir⟩:=GT (r0.getD 0);rw[<-Ir.o];clear q0;go_wp2_with fail;refine i7 (cO x _) λw2 hx=>?_;refine Op ((Ee.grow hx).grow (C7.alloc w2 (QD #[U x,U 1] 56))) (show ah w (w2.alloc (QD #[U x,U 1] 56)) w2 x 1 from ah.new (Ee.ext.trans hx) _ _) ((Is.ext hx).ext (C7.alloc w2 (QD #[U x,U 1] 56))) (show w.heap.size<w2.heap.size by have h1:=Ee.lt;have h2:=hx.size;omega) λHB HF GJ MB=>?_;have⟨w3,E8⟩:=e9 (w2.alloc (QD #[U x,U 1] 56));rw[<-E8]at HB HF GJ;go_upto_region 4 with fail;rw[<-E8];clear E8;generalize w2.heap.size=g at HF MB⊢;cases r0 with
 | none =>
   have HZ:=I (show R=none by rw[Fv.o];exact zO);exact Jp
 | some y0 =>
   obtain rfl:x=y0:=Ir.o;by_cases Nf:n1=2
   ·subst Nf;have⟨lb',lo',x1,e',W3,Eu⟩:=GJ.at (k:=1) j0;obtain⟨rfl,rfl⟩:=aM e';clear e';have q1:w3.cell? (O lb (lo+1))=some (aE (bs x1)):=by simpa[A9]using Eu 0 _ rfl
    rw[W3,Nm]at Fv;have Lb:=I (mj (w:=w3) x1);generalize di x1=r1 at Fv Lb;generalize bs x1=t1 at q1 Lb;have f1:=HF.free 1;have f2:=HF.c1;clear Eu W3;have⟨y,HY⟩:=GT (r1.getD 0);rw[<-HY.o]at Lb;have FI:=I (HB.other (a:=(O g 1)) (by have:=MB.o;simp;omega) (by have:=MB.o;simp;omega) (U y));have TQ:b9 (ah w (w3.setCell (O g 1) (U y)) g x y):=HF.put1 y;have⟨w4,FY⟩:=e9 (w3.setCell (O g 1) (U y));rw[<-FY]at FI TQ;go_wp2_with fail;refine Lb.mono ?_;rintro e w3' ⟨rfl,rfl⟩;go_upto_region 6 with fail;rw[<-FY];clear FY q1 f1 f2;cases r1 with
    | none =>
      have HZ:=I (show R=none by rw[Fv.o];exact zP HN1);have r0:=FI.c0;have r1:=FI.c1;have rf:=FI.free;go_wp2;refine Fn (v:=.tuple #[.agg #[U 0,U 0],bl false]) (by simp[results,Tryz.results86,go_sem,r0,r1,rf]) rfl ⟨by rw[HZ.o];rfl,(FI.put _ _).ext⟩
    | some y1 =>
      obtain rfl:y=y1:=HY.o;have Kj:=I (Fv.trans (zR (x:=x) (y:=y) (t:=t) HN1));exact Kn
   have hne:((n1:Int) == 2)=false:=m9;by_cases LD:n1=1
   ·subst LD;refine t8 HB.o HF.o (Fv.trans (zQ (x:=x) (t:=t) HN1)) λFI TQ Kj=>?_;have⟨w4,FY⟩:=e9 w3;subst FY;go_upto_region 6 with fail;obtain⟨y,hy⟩:∃y:Int,y=1:=⟨_,rfl⟩;rw[<-hy]at TQ Kj;clear hy;exact Kn
   have LW:2<n1:=j0;have HZ:=I (show R=none by rw[Fv.o];exact qu (by rw[HN1.o];exact LW));exact Jp
def Yx(h:σ:=by
 go_wp2;refine Fn (v:=.tuple #[.agg #[U 0,U 0],bl false]) Qz rfl ⟨by rw[HZ.o];rfl,(Nt.put _ _).ext⟩
 ):σ:=h
theorem Bv(t:List UInt8)(ht:JL t<=1099511627700):
 f8 39 #[aE (bs t)] w (IN ((Ky t).getD (0,0),(Ky t).isSome)):=by
 have⟨W,hW⟩:=e9 (w.alloc (QD #[U 0,U 0] 56));have QT:=I (show ah w W w 0 0 by rw[hW];exact ah.new WF _ _);have EO:=I (jm (w:=W) t 47 ht);have⟨L,hL⟩:=e9 (DR 47 t);have Fb:=I (show 1<=JL L by rw[hL];exact ip _ _);have⟨R,hR⟩:=e9 (Ky t);have HR:=I (show R=Le L (di (L[0]?.getD [])) (di (L[1]?.getD [])) t by rw[hR,hL];rfl);have H6:=I (λl=>sz l t);have N9:=I (show(di (L[0]?.getD [])).isSome=true->∃c r,(bs t).toList=c::r by
  intro h;rw[cY];cases t with
  | nil=>rw[hL]at h;exact absurd h Fd
  | cons c r=>exact⟨c,r,rfl⟩)
 rw[<-hR];rw[<-hL]at EO;have⟨tt,Es⟩:=e9 (bs t);simp only[<-Es]at EO H6 N9;rw[<-Es];clear hR hL Es;unfold f8;go_in
 go_upto_region 1 with fail;rw[<-hW];clear hW;go_wp2_with fail;refine E9 EO λw1 v ho hx=>?_;obtain⟨a1,Z,c1,rfl,G⟩:=ho.var;have Is:=I ho.Hr;have Ee:=I (QT.grow hx);have⟨Lq,Lm⟩:=Is.aq9;have FT:1<=Z:=by have K:=G.o;have h2:=Fb.o;omega
 clear ho hx;obtain⟨lb,lo,x0,rfl,L4,D1⟩:=Is.at (k:=0) j0;have q0:w1.cell? (O lb lo)=some (aE (bs x0)):=by simpa[A9]using D1 0 _ rfl
 have Lb:=I (mM (w:=w1) x0);have Fv:=I HR.o;rw[L4,Nm]at Fv N9;generalize di x0=r0 at Fv Lb N9;generalize bs x0=t0 at q0 Lb;clear D1 L4;go_wp2_with fail;refine i7 Lb λw2 hx=>?_;have Fy:=I (Ee.grow hx);have GJ:=I (Is.ext hx);have⟨x,Ir⟩:=GT (r0.getD 0);rw[<-Ir.o];have⟨one,Gn⟩:=GT r0.isSome;rw[<-Gn.o]at N9⊢;clear q0;go_upto_if 21 with fail
 go_cut [7,8] (λsd st wx=>∃(d:Int) (two:Bool),sd=U d/\st=bl two/\b9 (if Z=1 then d=1/\two=true else d=(di (L[1]?.getD [])).getD 0/\two=(di (L[1]?.getD [])).isSome)/\b9 (C7 w2 wx))
 case first =>
  by_cases K:Z=1
  ·subst K;go_wp2;go_meet;exact⟨1,true,rfl,rfl,I j7,I WF⟩
  have h2:1<Z:=j0;have⟨lb',lo',x1,e',W3,Eu⟩:=GJ.at (k:=1) j0;obtain⟨rfl,rfl⟩:=aM e';clear e';have q1:w2.cell? (O lb (lo+1))=some (aE (bs x1)):=by simpa[A9]using Eu 0 _ rfl
  have Lb:=I (mM (w:=w2) x1);have QR:=I (show L[1]?.getD []=x1 by rw[W3];rfl);generalize bs x1=t1 at q1 Lb;clear Eu W3;go_wp2_with fail;refine i7 Lb λw3 B7=>?_;go_wp2;go_meet;exact⟨_,_,rfl,rfl,I (by rw[f7 K,QR.o];exact⟨rfl,rfl⟩),B7⟩
 obtain⟨d,two,rfl,rfl,HD,B7⟩:=hcut;have Nt:=I ((Fy.grow B7).grow (C7.alloc wc (QD #[U x,U d] 56)));have HF:b9 (ah w (wc.alloc (QD #[U x,U d] 56)) wc x d):=ah.new (Fy.ext.trans B7) _ _;have⟨w4,FY⟩:=e9 (wc.alloc (QD #[U x,U d] 56));rw[<-FY]at Nt HF;go_upto_region 8 with fail;rw[<-FY];clear FY;generalize wc.heap.size=g at HF⊢;have q0:=Nt.c0;have q1:=Nt.c1;have qf:=Nt.free;cases one with
 | false =>
   have HZ:=I (show R=none by
    rw[Fv.o];cases r0 with
    | none=>exact zO
    | some y=>exact absurd Gn.o j7)
   exact Yx
 | true =>
   have⟨tc,tr',ML⟩:=N9.o rfl;have HTC:=I ML;have Kk:=I (show R=Le L (some x) (di (L[1]?.getD [])) t by
    rw[Fv.o];cases r0 with
    | none=>exact absurd Gn.o j7
    | some y=>rw[show x=y from Ir.o])
   cases two with
   | false =>
     have HZ:=I (show R=none by
      have E:=HD.o;rw[Kk.o];by_cases K:Z=1
      ·rw[f9 K]at E;exact absurd E.2 j7
      rw[f7 K]at E;have hno:di (L[1]?.getD [])=none:=by
       cases h:di (L[1]?.getD [])with
       | none=>rfl
       | some y=>rw[h]at E;exact absurd E.2 j7
      rw[hno];by_cases h2:JL L=2
      ·exact zP h2
      exact qu (k8 G.o))
     clear HD ML;exact Yx
   | true =>
     by_cases h3:2<Z
     ·have HZ:=I (show R=none by rw[Kk.o];exact qu (by rw[G.o];exact h3));clear HD ML;exact Yx
     have Kj:=I (show R=if D' (x,d)=t then some (x,d) else none by
      have E:=HD.o;rw[Kk.o];by_cases K:Z=1
      ·rw[f9 K]at E;rw[E.1];exact zQ (by rw[G.o];exact K)
      rw[f7 K]at E;cases h:di (L[1]?.getD [])with
      | none=>rw[h]at E;exact absurd E.2 j7
      | some y =>
        rw[h]at E;rw[E.1];exact zR (k8 G.o))
     have Pk:=HF.c0;have Pj:=HF.c1;have Pq:=I (lE (w:=w4) x d);have Ju:=I (H6 (D' (x,d)));generalize bs (D' (x,d))=tg at Pq Ju;rw[ML]at Ju;clear HD q0 q1 qf;go_wp2_with fail;refine i7 Pq λw5 Ey=>?_;have Ek:=I (Nt.grow Ey);have Zl:=I (HF.grow Ey);have q0:=Ek.c0;have q1:=Ek.c1;have qf:=Ek.free;have u0:=Zl.c0;have u1:=Zl.c1;clear Pk Pj;by_cases he:D' (x,d)=t
     ·have K3:(tg.toList == (tc::tr'))=true:=by rw[Ju.o,UV he]
      have HZ:=I (Kj.trans (f9 he));clear he;go_wp2;refine Fn (v:=.tuple #[.agg #[U x,U d],bl true]) Qz rfl ⟨by rw[HZ.o];rfl,(Ek.put _ _).ext⟩
     have K3:(tg.toList == (tc::tr'))=false:=by rw[Ju.o,Ok he]
     have HZ:=I (Kj.trans (f7 he));clear he;go_wp2;refine Fn (v:=.tuple #[.agg #[U 0,U 0],bl false]) Qz rfl ⟨by rw[HZ.o];rfl,(Ek.put _ _).ext⟩
theorem qG(c:UInt8)(l:List UInt8):∀i,∀x∈(Fk c l i).1,JL x<=JL l
 | 0=>λx h=>by cases h
 | i+1=>λx h=>by
   unfold Fk at h
   split at h
   ·rcases Wn.1 h with h|h
    ·exact qG c l i x h
    rw[Se]at h;subst h;rw[Lr,k6];omega
   exact qG c l i x h
theorem kE{c:UInt8}{l x:List UInt8}(h:x∈DR c l):JL x<=JL l:=by
 unfold DR at h;rcases Wn.1 h with h|h
 ·exact qG c l _ x h
 rw[Se]at h;subst h;rw[Lr];omega
theorem lw(c:UInt8)(l:List UInt8):JL (DR c l)<=JL l+1:=by
 have:=(oQ c l (JL l)).2;unfold DR;rw[SW,G2];omega
theorem GL.drop1{b o n cap:Nat}{l:List (List UInt8)}(h:GL A9 w (some (O b o)) (n+1) (cap+1) l):GL A9 w (some (O b (o+1))) n cap (l.drop 1):=by
 refine⟨by rw[Lr,h.hlen];omega,by have:=h.r8;omega,by have:=h.r9;omega,λk hk=>⟨b,o+1,rfl,λk x j v E G=>?_⟩⟩;have⟨b',o',e,hc⟩:=h.cell 0 j0;obtain⟨rfl,rfl⟩:=aM e;rw[XJ]at E;have:=hc (1+k) x j v E G;rw[show b=b from rfl]at this;have H:o+(1+k)*A9.c+j=o+1+k*A9.c+j:=by show o+(1+k)*1+j=o+1+k*1+j;omega
 rwa [H]at this
end
section
variable{w:J}{base n m dap:Nat}{a b:l9}
def PR(h:σ:=by
 (try unfold f8);go_in
 go_wp2;go_ret;exact⟨rfl,WF⟩
 ):σ:=h
theorem wL(l:List UInt8)(ok:Bool):f8 64 #[aE (bs l),bl ok] w (aE (bs (eA l ok))):=by
 cases ok
 all_goals
  exact PR
theorem xW(l:List UInt8)(ok:Bool):f8 113 #[bl ok,aE (bs l)] w (aE (bs (eA l ok))):=by
 cases ok
 all_goals
  exact PR
theorem DJ.of{r:St×List UInt8}{p:Int}{cap:Nat}{V:o3}{X:l7}{t:List UInt8}{s:ByteArray}(h:r=(⟨p,V,X⟩,t))(hs:s=bs t)(ho:aK w base a n cap b m dap V X):DJ w base (ar (.tuple #[sess p a n cap b m dap,aE s])) r:=by
 subst h;subst hs;exact⟨_,_,_,_,_,_,rfl,ho⟩
theorem DJ.re{r R:St×List UInt8}{p:Int}{cap:Nat}{s:ByteArray}(h:r=R)(E:p=R.1.p)(hs:s=bs R.2)(ho:aK w base a n cap b m dap R.1.V R.1.X):DJ w base (ar (.tuple #[sess p a n cap b m dap,aE s])) r:=by
 subst h;subst hs;subst E;exact⟨_,_,_,_,_,_,rfl,ho⟩
theorem cq.keep{W:J}{p:Int}{cap:Nat}(h:cq w W p a n cap b m dap):W.cell? (O w 0)=some (U p)/\W.cell? (O w 1)=some (GI a n cap)/\W.cell? (O w 2)=some (GI b m dap)/\C7 w W :=
 let⟨c0,c1,c2,_⟩:=h.s.c
 ⟨c0,c1,c2,h.x⟩
theorem cq.point{W:J}{p:Int}{cap:Nat}(h:cq w W p a n cap b m dap)(b':l9)(m' FL:Nat):cq w (W.setCell (O w 2) (GI b' m' FL)) p a n cap b' m' FL :=
 ⟨h.x.store 2 (i8 _) _,h.s.Ta _,(GE _ _ _ _ j7).trans h.r⟩
section
variable{w:J}{p:Int}{a b:l9}{n cap m dap:Nat}{V:o3}{X:l7}{base:Nat}
def YX(h:σ:=by
 have⟨z0,z1,z2,HZ,XZ⟩:=HT.Eg HO.o (p);go_wp2;refine Fn qc rfl ⟨DJ.of (rfl) rfl HZ.o,XZ⟩
 ):σ:=h
theorem jL (hO : aK w base a n cap b m dap V X) {pa : Option Addr} {pn pc : Nat} {P : List (Int × Int)} {ok : Bool} (hP : ok = true -> WV w base (GI pa pn pc) P /\ pn <= 100000) (htab : Lib.TabIs prog w "internal/strconv.uint64pow10" .u64 Lib.pow10Tab) :
 Calls prog 58 #[sess p a n cap b m dap,GI pa pn pc,bl ok] w λe w'=>DJ w' base e (dN ⟨p,V,X⟩ P ok)/\C7 w w':=by
 have⟨W,hW,HT,HO,⟨c0,c1,c2,cf⟩,r0,r1,r2,rf⟩:=fR p hO;have HTB:=I htab;have HP:=I hP;clear htab hP;clear hO;go_in
 go_upto_region 1 with fail;rw[<-hW];clear hW;cases ok with
 | false =>
   have qq0:=@results58;exact YX
 | true =>
   have⟨hp,hpn⟩:=HP.o rfl;have⟨w1,Hn⟩:=e9 (W.setCell (O w 2) (GI pa pn pc));have HT1:=I (show cq w w1 p a n cap pa pn pc by rw[Hn];exact HT.point _ _ _);have HO1:=I (show aK w1 base a n cap pa pn pc V P by rw[Hn];exact aK.set2 (X:=P) ⟨HO.v,hp.ext HT.x⟩ HT.s _);have HFV:=I (λ(w':J) (hx:C7 w1 w')=>sX (HO1.x.rats.ext hx) hpn (ec HTB.o (HT1.x.trans hx)));have⟨tt,Nn⟩:=GT (bs (Qi P));simp only[<-Nn.o]at HFV;go_upto_region 4 with fail;rw[<-Hn];clear Hn hp c0 c1 c2 cf r0 r1 r2 rf;have hk:=C7.drew w1;refine nE (S:=(λw'=>w'.cell? (O w 0)=some (U p)/\w'.cell? (O w 1)=some (GI a n cap)/\w'.cell? (O w 2)=some (GI pa pn pc)/\C7 w w')) j8 ?_ (λo9=>?_)
   ·exact(HT1.ext hk).keep
   refine tk 0 ?_;refine tk 1 ?_;refine rd 2 λK hK=>?_;go_simp
   (go_at_call 125;refine IR (HFV _ hk) λw3 B5=>?_;have hk:=hk.trans B5)
   go_wp2_with fail;refine KO ((HT1.ext hk).keep) λo9=>?_;have Fu:=I (HT1.ext hk);have B9:=I (HO1.ext hk);have⟨r0,r1,r2,rf⟩:=Fu.r.c;have⟨z0,z1,z2,HZ,XZ⟩:=Fu.Eg B9.o p;refine rd 3 λK hK=>?_;go_simp;refine KO (iI Fu.o XZ) λo9=>?_;refine tk 4 ?_;refine Pi j8 ?_ _;go_wp2;refine Fn (by simp[results,results58,go_sem,r0,r1,r2,rf,z0,z1,z2]<;>rfl) rfl ⟨DJ.of rfl Nn.o HZ.o,XZ⟩
theorem Zq(k:Nat)(hk:k<=999999):ak (k:Int) (Er (λ_=>0) (EH (k:Int)).toNat)=decide (1<=(k:Int)/\(k:Int)<=5):=by
 by_cases h:1<=k/\k<=5
 ·rw[dP k h.2,gg,UV j0];exact zT h.1 h.2 rfl (λ_ _=>by omega)
 rw[Ok j0,Wg];intro hg;obtain⟨q,hq,h1,h5,_⟩:=ap hg;omega
theorem sU:NE prog 79:=cR func79 j8 j8
theorem vn(s:Int)(w:J):f8 79 #[U s] w (U 0):=by
 exact PR
theorem S1(N:Nat):Er (λ_=>(0:Int)) N=List.replicate N 0:=by unfold Er;exact List.map_const' .. |>.trans j7
theorem Rn(k:Nat):(EH (k:Int)).toNat<=32/\EH (k:Int)=((EH (k:Int)).toNat:Int):=by
 by_cases h:k<=5
 ·rw[dP k h,gg];exact⟨(bp k h).2,rfl⟩
 have:EH (k:Int)=0:=by unfold EH;rw[f7 WC]
 rw[this];exact⟨by decide,rfl⟩
theorem U'{l:List UInt8}(h:0<=aD l 6):aD l 6<=999999:=by
 unfold aD at h⊢;split
 ·next g =>
  have h2:=tP l g.2.2;have h3:10^JL l<=10^6:=W7 Fd g.1.2;omega
 omega
def jB(s:St)(d:Int):St×List UInt8:=if 0<=d then jn s d else(s,fG)
def jA(s:St)(d:Int):St×List UInt8:=if 0<=d then jU s d else(s,fG)
def yB(h:σ:=by
 go_wp2;refine Fn qc rfl ⟨DJ.of (Pn.o) rfl HZ.o,XZ⟩
 ):σ:=h
def mf(h:σ:=by
 have⟨z0,z1,z2,HZ,XZ⟩:=HT.Eg HO.o p;go_wp2_with fail;refine(La _).mono ?_;rintro e w1 ⟨rfl,rfl⟩;go_wp2;refine Fn qc rfl ⟨DJ.of HS.o rfl HZ.o,XZ⟩
 ):σ:=h
theorem wK(hO:aK w base a n cap b m dap V X)(hb:base<=w.heap.size)(l:List UInt8):
 Calls prog 27 #[sess p a n cap b m dap,aE (bs l)] w λe w'=>DJ w' base e (jB ⟨p,V,X⟩ (aD l 6))/\C7 w w':=by
 have⟨W,hW,HT,HO,⟨c0,c1,c2,cf⟩,r0,r1,r2,rf⟩:=fR p hO;have La:=I (λ(w':J)=>mX (w:=w') l);have H7:=I (U' (l:=l));have⟨d,hd⟩:=e9 (aD l 6);simp only[<-hd]at La H7;have⟨Z,IY⟩:=GT (jB ⟨p,V,X⟩ d);rw[<-hd,<-IY.o];have I2:=I hb;clear hd hb;clear hO;go_in
 go_upto_region 1 with fail;rw[<-hW];clear hW;have⟨tt,Es⟩:=e9 (bs l);simp only[<-Es]at La;rw[<-Es];clear Es;by_cases G:0<=d
 ·rw[f9 G,UV G]at La;obtain⟨k,rfl⟩:∃k:Nat,d=k:=⟨d.toNat,by omega⟩;have YR:k<=999999:=by have:=H7.o G;omega
  have HS:b9 (jB ⟨p,V,X⟩ (k:Int)=jn ⟨p,V,X⟩ (k:Int)):=f9 G;have⟨hN,Mu⟩:=Rn k;have⟨B,hB⟩:=e9 (decide (1<=(k:Int)/\(k:Int)<=5));have HMD:=I (zx (w:=W) (n:=k) (N:=(EH (k:Int)).toNat) (ca:=#[]) (f:=λ_=>0) (B:=B) hN (λw'=>by rw[<-Mu];exact et (k:Int) w') sU (λs w1 _ _=>vn (s:Int) w1) (by rw[Zq k YR,hB]))
  have I8:=I (show jn ⟨p,V,X⟩ (k:Int)=if B=true then(⟨k,Er (λ_=>0) (EH (k:Int)).toNat,[]⟩,Zs) else(⟨p,V,X⟩,Nw)by
   unfold jn;rw[hB];by_cases h:1<=(k:Int)/\(k:Int)<=5
   ·rw[f9 h,f9 (UV h),S1,dP k j0];simp
   rw[f7 h,f7 (by rw[Ok h];simp)])
  generalize (EH (k:Int)).toNat=N at HMD I8;have Pn:=I (IY.trans (HS.trans I8));clear hB Mu hN G;go_wp2_with fail;refine(La _).mono ?_;rintro e w1 ⟨rfl,rfl⟩;go_wp2_with fail;refine PP HMD λw2 v ho hx=>?_;obtain⟨Q,K,E,rfl,Hb⟩:=ho.var;refine t8 (ho.mono (fy I2.o HT.x.size)) ((HT.ext hx).ext (C7.alloc w2 (QD #[U ((if B=true then k else 0:Nat):Int),GI Q K E] 31))) ((HO.ext hx).ext (C7.alloc w2 (QD #[U ((if B=true then k else 0:Nat):Int),GI Q K E] 31))) λHG H Ec=>?_;have Kl:=I (HG.ext (C7.alloc w2 (QD #[U ((if B=true then k else 0:Nat):Int),GI Q K E] 31)));have Ju:=I (ai w2 (QD #[U ((if B=true then k else 0:Nat):Int),GI Q K E] 31) _ rfl);clear ho Hb c0 c1 c2 cf r0 r1 r2 rf;cases B with
  | false =>
    simp only[QQ,XP,show((0:Nat):Int)=0 from rfl]at H Ec Kl Ju⊢;have⟨w3,E8⟩:=e9 (w2.alloc (QD #[U 0,GI Q K E] 31));rw[<-E8]at H Ec Kl Ju;go_upto_region 5 with fail;rw[<-E8];clear E8;have⟨c0,c1,c2,cf⟩:=H.s.c;have⟨r0,r1,r2,rf⟩:=H.r.c;have⟨z0,z1,z2,HZ,XZ⟩:=H.Eg Ec.o (p);have qq0:=@Tj;exact yB
  | true =>
    simp only[Pl]at H Ec Kl Ju⊢;have⟨w3,E8⟩:=e9 (w2.alloc (QD #[U ((k:Nat):Int),GI Q K E] 31));rw[<-E8]at H Ec Kl Ju;go_upto_region 5 with fail;rw[<-E8];clear E8;have g0:=bI Ju.o;have g1:=aH Ju.o;have⟨r0,r1,r2,rf⟩:=H.r.c;have B9:b9 (aK w3 base Q K E none 0 0 (Er (λ_=>0) N) []):=I ⟨Kl,qj⟩;have⟨z0,z1,z2,HZ,XZ⟩:=H.Eg B9.o ((k:Nat):Int);have qq0:=@Tj;exact yB
 rw[f7 G,Ok G]at La;have HS:=I (IY.trans (show jB ⟨p,V,X⟩ d=(⟨p,V,X⟩,fG)from f7 G));clear G;have qq0:=@Tj;exact mf
theorem xY(s:St)(k:Int):jU s k=if IE k=true then(⟨Gq k,Ge k,[]⟩,Zs) else(s,Nw):=by
 unfold jU;by_cases h:IE k=true
 ·rw[f9 h,f7 (λe=>by rw[vW]at e;rw[h]at e;cases e)]
 rw[f7 h,f9 ((vW k).2 ri)]
theorem wJ(hO:aK w base a n cap b m dap V X)(hb:base<=w.heap.size)(l:List UInt8):
 Calls prog 29 #[sess p a n cap b m dap,aE (bs l)] w λe w'=>DJ w' base e (jA ⟨p,V,X⟩ (aD l 6))/\C7 w w':=by
 have⟨W,hW,HT,HO,⟨c0,c1,c2,cf⟩,r0,r1,r2,rf⟩:=fR p hO;have La:=I (λ(w':J)=>mX (w:=w') l);have⟨d,hd⟩:=e9 (aD l 6);simp only[<-hd]at La;have⟨Z,IY⟩:=GT (jA ⟨p,V,X⟩ d);rw[<-hd,<-IY.o];have I2:=I hb;clear hd hb;clear hO;go_in
 go_upto_region 1 with fail;rw[<-hW];clear hW;have⟨tt,Es⟩:=e9 (bs l);simp only[<-Es]at La;rw[<-Es];clear Es;by_cases G:0<=d
 ·rw[f9 G,UV G]at La;refine t8 (IY.trans (show jA ⟨p,V,X⟩ d=jU ⟨p,V,X⟩ d from f9 G)) (Cu (w:=W) d) (xY ⟨p,V,X⟩ d) λHSX OB Yg=>?_;have⟨B,hB⟩:=e9 (IE d);unfold Zp at OB;rw[<-hB]at OB Yg;generalize Gq d=q,Ge d=L at OB Yg;have Pn:=I (HSX.trans Yg);clear hB G;go_wp2_with fail;refine(La _).mono ?_;rintro e w1 ⟨rfl,rfl⟩;go_wp2_with fail;refine PP OB λQ v ho hx=>?_;obtain⟨K,H,E,rfl,Hb⟩:=ho.var;refine Op ((ho.mono (fy I2.o HT.x.size)).ext (C7.alloc Q (QD #[U q,GI K H E] 31))) ((HT.ext hx).ext (C7.alloc Q (QD #[U q,GI K H E] 31))) ((HO.ext hx).ext (C7.alloc Q (QD #[U q,GI K H E] 31))) (ai Q (QD #[U q,GI K H E] 31) _ rfl) λKl Fh Ec Ju=>?_;clear ho Hb c0 c1 c2 cf r0 r1 r2 rf;have⟨w3,E8⟩:=e9 (Q.alloc (QD #[U q,GI K H E] 31));rw[<-E8]at Fh Ec Kl Ju;go_upto_region 5 with fail;rw[<-E8];clear E8;have⟨r0,r1,r2,rf⟩:=Fh.r.c;cases B with
  | false =>
    have⟨c0,c1,c2,cf⟩:=Fh.s.c;have⟨z0,z1,z2,HZ,XZ⟩:=Fh.Eg Ec.o (p);have qq0:=@td;exact yB
  | true =>
    have g0:=bI Ju.o;have g1:=aH Ju.o;have B9:b9 (aK w3 base K H E none 0 0 L []):=I ⟨Kl,qj⟩;have⟨z0,z1,z2,HZ,XZ⟩:=Fh.Eg B9.o ((q:Nat):Int);have qq0:=@td;exact yB
 rw[f7 G,Ok G]at La;have HS:=I (IY.trans (show jA ⟨p,V,X⟩ d=(⟨p,V,X⟩,fG)from f7 G));clear G;have qq0:=@td;exact mf
theorem yS (hO : aK w base a n cap b m dap V X) (hb : base <= w.heap.size) (l : List UInt8) (hl : JL l <= 1048576) (htab : Lib.TabIs prog w "internal/strconv.uint64pow10" .u64 Lib.pow10Tab) :
 Calls prog 30 #[sess p a n cap b m dap,aE (bs l)] w λe w'=>DJ w' base e (fW ⟨p,V,X⟩ (DR 32 l))/\C7 w w':=by
 have⟨W,hW,HT,HO,⟨c0,c1,c2,cf⟩,r0,r1,r2,rf⟩:=fR p hO;refine t8 htab hb (λ(w':J)=>jh (w:=w') l 32 j0) λHTB I2 EO=>?_;have⟨L,hL⟩:=e9 (DR 32 l);refine t8 (show∀x∈L,JL x<=1048576 by rw[hL];exact λx hx=>fy (kE hx) hl) (show JL L<=1048577 by rw[hL];have:=lw 32 l;omega) (show fW ⟨p,V,X⟩ L=(match ME L with|none=>(⟨p,V,X⟩,Nw)|some Y=>(⟨p,V,Y⟩,if EG p V Y=true then [121,101,115] else [115,117,109]))from rfl) λOa Lz Y9=>?_;have⟨Z,hZ⟩:=e9 (fW ⟨p,V,X⟩ L);simp only[<-hL]at EO;rw[<-hZ]at Y9;rw[<-hL,<-hZ];clear hL hZ htab hb;clear hO;go_in
 go_upto_region 1 with fail;rw[<-hW];clear hW;have⟨tt,Es⟩:=e9 (bs l);simp only[<-Es]at EO;rw[<-Es];clear Es c0 c1 c2 cf r0 r1 r2 rf;have⟨W1,Mw⟩:=e9 (W.alloc (QD #[] 56));refine Op (show cq w W1 p a n cap b m dap by rw[Mw];exact HT.ext WU) (show aK W1 base a n cap b m dap V X by rw[Mw];exact HO.ext WU) (show WV W1 W (EQ W 0 0) []by rw[Mw];exact WV.made _ _ (i8 _)) (show C7 W W1 by rw[Mw];exact WU) λHTA Yo HPA HWW=>?_;go_upto_region 2 with fail;rw[<-Mw];clear Mw;go_wp2_with fail;refine E9 (EO _) λw1 v ho hx=>?_;obtain⟨a1,n1,c1,rfl,HN1⟩:=ho.var;refine t8 ho.Hr (HPA.ext hx) (HWW.trans hx) λIs Jt A0=>?_;have⟨Lq,Lm⟩:=Is.aq9;have HW1S:=I (show∀wr,C7 W wr->cq w wr p a n cap b m dap/\aK wr base a n cap b m dap V X from λwr h=>⟨HT.ext h,HO.ext h⟩);have HSX:=I (show∀wr,C7 W wr->True from λ_ _=>trivial);have FT:n1<=1048577:=by have h1:=HN1.o;have h2:=Lz.o;omega
 have HOG:=I ho;clear ho hx;go_wp2
 go_loopg [6,15] n1 (λgk pp ii wr=>∃(k:Nat) (a4:l9) (n4 c4:Nat) (P:l7),b9 (gk+k=n1)/\ii=U k/\pp=GI a4 n4 c4/\b9 (LE (λk=>Ky (L[k]?.getD [])) k=some P)/\b9 (WV wr W (GI a4 n4 c4) P)/\b9 (C7 W wr)/\b9 (A5 A9 9 wr W1 (GI a1 n1 c1) L))
 ·exact⟨0,_,_,_,[],I j0,rfl,rfl,I rfl,Jt,A0,HOG⟩
 obtain⟨k,a4,n4,c4,P,HK,rfl,rfl,Kj,Jn,GV,HGG⟩:=hrel;by_cases hlt:k<n1
 ·obtain⟨lb,lo,x0,rfl,L4,D1⟩:=HGG.Hr.at hlt;have q0:wr.cell? (O lb (lo+k))=some (aE (bs x0)):=by simpa[A9]using D1 0 _ rfl
  have HPR:=I (AQ (w:=wr) x0 (k8 (Oa x0 (RU L4))) (ec HTB.o (HT.x.trans GV)));have Ro:=I (show(λk=>Ky (L[k]?.getD [])) k=Ky x0 by simp only[L4,Nm]);generalize Ky x0=R at HPR Ro;generalize bs x0=t0 at q0 HPR;have G4:=Rd k n1;clear D1 L4;cases R with
  | none =>
    have Pn:=I (show Z=(⟨p,V,X⟩,Nw)by
     rw[Y9.o,show ME L=none from by unfold ME;exact fs Kj.o Ro.o (k8 HN1.o)])
    go_wp2_with fail;refine i7 HPR λw4 DN=>?_;have FV:=I ((GV.trans DN).trans (C7.alloc w4 (QD #[U 0,U 0] 56)));have⟨w5,Fc⟩:=e9 (w4.alloc (QD #[U 0,U 0] 56));rw[<-Fc]at FV;go_upto_region 6 with fail;rw[<-Fc];clear Fc q0;have⟨t5,o5⟩:=HW1S.o _ FV.o;have Fh:=I t5;have Ec:=I o5;have⟨c0,c1,c2,cf⟩:=t5.s.c;have⟨r0,r1,r2,rf⟩:=t5.r.c;clear t5 o5;have⟨z0,z1,z2,HZ,XZ⟩:=Fh.Eg Ec.o (p);have qq0:=@UF;exact yB
  | some xy =>
    obtain⟨x,y⟩:=xy;have Np:=I (ea Kj.o Ro);have I8:=I (cX Kj);go_wp2_with fail;refine i7 HPR λw4 DN=>?_;have Ek:b9 (ah wr (w4.alloc (QD #[U x,U y] 56)) w4 x y):=ah.new DN _ _;have⟨w5,Fc⟩:=e9 (w4.alloc (QD #[U x,U y] 56));rw[<-Fc]at Ek;go_upto_region 6 with fail;rw[<-Fc];clear Fc q0;have q0:=Ek.c0;have q1:=Ek.c1;have hsz:=(GV.trans Ek.ext).size
    go_wp2_with (first
     | (at_builtin;refine cG rfl _ _ rfl W (GI a4 n4 c4) _ rfl ((Jn.ext Ek.ext).ext WU) _ 1 _ [(x,y)] rfl (C2 j7) (k8 I8.o) m9 ?_;intro v9 w9 ho Gt r7;have IZ:=I (aj ((GV.trans Ek.ext).trans WU) Gt (λj hj=>(Jn.lt j hj).1));have Rn:b9 (A5 A9 9 w9 W1 (GI (some (O lb lo)) n1 c1) L):=((HGG.ext Ek.ext).ext WU).keep λj hj=>Gt.block j (((HGG.ext Ek.ext).ext WU).lt j hj).2 λe=>aL (show(56:Nat)≠9 by decide) Jn.o HGG.o j e.symm hj;obtain⟨a9,n9,c9,rfl,N'⟩:=ho.var;have HP9:=I ho;clear ho Gt r7))
    refine er ?_;exact⟨k+1,_,_,_,_,I (k8 HK.o),by go_num,rfl,Np,HP9,IZ,Rn⟩
 have DV:k=n1:=k8 HK.o;subst DV;have HPY:=I (show ME L=some P by unfold ME;rw[HN1.o];exact Kj);have Pn:=I (show Z=(⟨p,V,P⟩,if EG p V P=true then [121,101,115] else [115,117,109])by rw[Y9.o,HPY.o]);have⟨t5,o5⟩:=HW1S.o _ GV.o;have⟨c0,c1,c2,cf⟩:=t5.s.c;have Fh:=I (t5.point a4 n4 c4);have Ec:=I (aK.set2 (z':=GI a4 n4 c4) (show aK wr base a n cap a4 n4 c4 V P from⟨o5.v,Jn.mono (fy I2.o HT.x.size)⟩) t5.s);have⟨w6,GD⟩:=e9 (wr.setCell (O w 2) (GI a4 n4 c4));rw[<-GD]at Fh Ec;go_upto_region 11 with fail;rw[<-GD];clear GD t5 o5 c0 c1 c2 cf;have⟨c0,c1,c2,cf⟩:=Fh.s.c;have HIP:=I (rt (p:=p) Ec.v.ints Ec.x.rats);generalize EG p V P=B at HIP Pn;go_wp2_with fail;refine i7 HIP λw7 hx=>?_;have R6:=I (Fh.ext hx);have II:=I (Ec.ext hx);clear c0 c1 c2 cf;have⟨c0,c1,c2,cf⟩:=R6.s.c;have⟨r0,r1,r2,rf⟩:=R6.r.c;cases B with
 | false =>
   have⟨z0,z1,z2,HZ,XZ⟩:=R6.Eg II.o (p);have qq0:=@UF;exact yB
 | true =>
   have⟨z0,z1,z2,HZ,XZ⟩:=R6.Eg II.o (p);have qq0:=@UF;exact yB
theorem pJ{s:St}{c v:List UInt8}(h:Ja c=none∨di v=none):ft s c v=(s,Nw):=by
 unfold ft;rcases h with h|h
 ·rw[h]
 rw[h];cases Ja c<;>rfl
theorem pK{s:St}{c v:List UInt8}{t:Nat}{x:Int}(G:Ja c=some t)(E:di v=some x):ft s c v=if 1<=t/\t<JL s.V/\ak s.p (s.V.set t x)=true then(⟨s.p,s.V.set t x,[]⟩,Zs) else(s,Nw):=by
 unfold ft;rw[G,E]
theorem Cx{p:Int}{V:o3}{t:Nat}{x:Int}(h:A4 (t:Int) 1 (min (EH p) (JL V:Int)-1)=false):¬(1<=t/\t<JL V/\ak p (V.set t x)=true):=by
 rintro⟨h1,h2,H⟩;obtain⟨q,rfl,_,G,E,_⟩:=ap H;rw[k7]at E;have hc:=dP q G;rw[hc,E,Int.min_self]at h;unfold A4 at h;simp at h;omega
def iM(s:St)(L:List (List UInt8)):St×List UInt8:=if JL L=2 then ft s (L[0]?.getD []) (L[1]?.getD []) else(s,fG)
def PA(h:σ:=by
 go_upto_region 6 with fail;refine mc HK B6 λo9=>?_
 refine vA ⟨?_⟩;refine Xd ⟨?_⟩;refine ck ⟨?_⟩;refine Pi j8 ?_ _;have Fh:=I (ab.ext B6);have Ec:=I (aa.ext B6);generalize w2.drew=w3 at Fh Ec⊢;have⟨c0,c1,c2,cf⟩:=Fh.s.c;have⟨r0,r1,r2,rf⟩:=Fh.r.c;have⟨z0,z1,z2,HZ,XZ⟩:=Fh.Eg Ec.o (p);go_wp2;refine Fn P6 rfl ⟨DJ.of (Pn.o) rfl HZ.o,XZ⟩
 ):σ:=h
def MB(h:σ:=by
 go_wp2;refine Fn P6 rfl ⟨DJ.of (ad.o) rfl HZ.o,XZ⟩
 ):σ:=h
theorem AU(hO:aK w base a n cap b m dap V X)(hb:base<=w.heap.size)(hn:n<=1048576)(hm:m<=1048576)(l:List UInt8)(hl:JL l<=1048576):
 Calls prog 28 #[sess p a n cap b m dap,aE (bs l)] w λe w'=>DJ w' base e (iM ⟨p,V,X⟩ (DR 32 l))/\C7 w w':=by
 have⟨W,hW,HT,HO,⟨c0,c1,c2,cf⟩,r0,r1,r2,rf⟩:=fR p hO;have I2:=I hb;have EO:=I (λ(w':J)=>jh (w:=w') l 32 j0);have⟨L,hL⟩:=e9 (DR 32 l);have Y9:b9 (iM ⟨p,V,X⟩ L=if JL L=2 then ft ⟨p,V,X⟩ (L[0]?.getD []) (L[1]?.getD []) else(⟨p,V,X⟩,fG)):=I (rfl);have⟨Z,hZ⟩:=e9 (iM ⟨p,V,X⟩ L);simp only[<-hL]at EO;rw[<-hZ]at Y9;rw[<-hL,<-hZ];have LR:=hO.v.ints.hlen;have⟨MJ,hvm⟩:=hO.v.ints.aq9;refine t8 LR hn hm λHVL LJ KW=>?_;clear hL hZ hb LR hn hm;clear hO;go_in
 go_upto_region 1 with fail;rw[<-hW];clear hW;have⟨tt,Es⟩:=e9 (bs l);simp only[<-Es]at EO;rw[<-Es];clear Es c0 c1 c2 cf r0 r1 r2 rf;go_wp2_with fail;refine E9 (EO _) λw1 v ho hx=>?_;obtain⟨a1,n1,k1,rfl,HN1⟩:=ho.var;have Is:=I ho.Hr;have⟨Lq,Lm⟩:=Is.aq9;have HT1:=I (HT.ext hx);have HO1:=I (HO.ext hx);clear ho hx;have⟨c0,c1,c2,cf⟩:=HT1.s.c;by_cases Nf:n1=2
 ·subst Nf;obtain⟨lb,lo,x0,rfl,L4,D1⟩:=Is.at (k:=0) j0;have⟨lb',lo',x1,e',W3,Eu⟩:=Is.at (k:=1) j0;obtain⟨rfl,rfl⟩:=aM e';clear e';have q0:w1.cell? (O lb lo)=some (aE (bs x0)):=by simpa[A9]using D1 0 _ rfl
  have q1:w1.cell? (O lb (lo+1))=some (aE (bs x1)):=by simpa[A9]using Eu 0 _ rfl
  refine Op q1 (qk (w:=w1) x0) (λ(w':J)=>mj (w:=w') x1) (show Z=ft ⟨p,V,X⟩ x0 x1 by rw[Y9.o,f9 HN1.o,L4,W3];rfl) λHQ1 Pp Lb HSY2=>?_;have⟨t0,Jq⟩:=e9 (bs x0);have⟨t1,Og⟩:=e9 (bs x1);rw[<-Jq]at q0 Pp;rw[<-Og]at q1 HQ1;simp only[<-Og]at Lb;have Hp:=I (λh=>HSY2.trans (pJ (s:=⟨p,V,X⟩) (c:=x0) (v:=x1) h));have Ty:=I (λt x h1 h2=>HSY2.trans (pK (s:=⟨p,V,X⟩) (c:=x0) (v:=x1) (t:=t) (x:=x) h1 h2));have⟨rc,LU⟩:=e9 (Ja x0);have⟨ri,hri⟩:=e9 (di x1);have abC:=I (show∀s,rc=some s->s<32 by rw[LU];exact λs h=>zK h);rw[<-LU]at Pp Hp;simp only[<-LU]at Ty;simp only[<-hri]at Lb Ty;rw[<-hri]at Hp;clear D1 Eu L4 W3 Jq Og LU hri;go_wp2_with fail;refine i7 Pp λw2 hx=>?_;have ab:=I (HT1.ext hx);have aa:=I (HO1.ext hx);have q1':=hx.o6 HQ1.o;clear q0 q1 c0 c1 c2 cf;go_wp2_with fail;refine IR (Lb _) λw2' e2=>?_;obtain rfl:w2=w2':=e2.symm;have⟨c0,c1,c2,cf⟩:=ab.s.c;have B6:=C7.drew w2;have HK:=I (λ(w':J) (hk:C7 w2 w')=>(⟨hk.o6 c0,hk.o6 c1,ab.x.trans hk⟩:w'.cell? (O w 0)=some (U p)/\w'.cell? (O w 1)=some (GI a n cap)/\C7 w w'));clear q1' c0 c1 c2 cf
  cases rc with
  | none =>
    have Pn:=I (Hp (.inl rfl));obtain⟨c,hc⟩:∃c:Int,c=(((none:Option Nat).getD 0:Nat):Int):=⟨_,rfl⟩;rw[<-hc,show(none:Option Nat).isSome=false from rfl];obtain⟨xi,hxi⟩:∃c:Int,c=ri.getD 0:=⟨_,rfl⟩;obtain⟨xb,QY⟩:∃c:Bool,c=ri.isSome:=⟨_,rfl⟩;rw[<-hxi,<-QY];clear hc hxi QY;exact PA
  | some t =>
    have ht32:=abC.o t rfl;obtain⟨c,hc⟩:∃c:Int,c=(((some t).getD 0:Nat):Int):=⟨_,rfl⟩;have HC:b9 (c=(t:Int)):=hc;rw[<-hc,show(some t).isSome=true from rfl];cases ri with
    | none =>
      have Pn:=I (Hp (.inr rfl));clear hc;rw[show(none:Option Int).isSome=false from rfl,show(none:Option Int).getD 0=0 from rfl];exact PA
    | some x =>
      have HY:=I (Ty t x rfl rfl);rw[hc,show(((some t).getD 0:Nat):Int)=(t:Int)from rfl,show(some x).isSome=true from rfl,show(some x).getD 0=x from rfl];have Oc:=I (λw'=>et p w');have⟨N,hN⟩:=e9 (EH p);have HNI:=I (show A4 (t:Int) 1 (min N (n:Int)-1)=false->¬(1<=t/\t<JL V/\ak p (V.set t x)=true)by
       intro h;rw[hN,<-HVL.o]at h;exact Cx h)
      have hNb:0<=N/\N<=32:=by
       rw[hN];unfold EH;split
       ·next h =>
        unfold A4 at h;simp at h;have h5:p.toNat<=5:=j0;have:∀q:Fin 6,(2:Int)^q.val<=32/\(0:Int)<=2^q.val:=by decide
        have:=this ⟨p.toNat,by omega⟩;simp only at this;exact⟨this.2,this.1⟩
       omega
      simp only[<-hN]at Oc;have hmw:=dk (min N (n:Int)-1);have⟨hi,hhi⟩:=e9 (min N (n:Int));rw[<-hhi]at hmw HNI;have hmin:=hhi.symm;have⟨B,hB⟩:=e9 (A4 (t:Int) 1 (hi-1));have HWI:=I (λw'=>av (t:Int) 1 (hi-1) w');simp only[<-hB]at HWI HNI;have Gf:=I (show B=true->1<=t/\(t:Int)<n by
       rw[hB];unfold A4;intro h;simp at h;omega)
      clear hc hN hhi hB;go_upto_region 6 with fail;refine mc HK B6 λo9=>?_
      refine mq ⟨?_⟩;refine PV ⟨?_⟩;refine tk 7 ?_;refine tk 8 ?_;refine tk 9 ?_;refine tk 10 ?_;refine tk 12 ?_;refine tk 13 ?_;refine tk 14 ?_;refine tk 15 ?_;refine rd 11 λK hK=>?_;go_simp
      (go_at_call 83;refine(Oc _).mono ?_;rintro e w5 ⟨rfl,rfl⟩)
      go_wp2_with fail;refine KO (HK _ B6) λo9=>?_;refine tk 16 ?_;refine tk 17 ?_;refine rd 18 λK hK=>?_;go_simp
      (go_at_call 82;refine(HWI _).mono ?_;rintro e w5 ⟨rfl,rfl⟩)
      go_wp2_with fail;refine KO (HK _ B6) λo9=>?_;refine tk 19 ?_;refine tk 20 ?_;refine Pi j8 ?_ _;have Fh:=I (ab.ext B6);have Ec:=I (aa.ext B6);generalize w2.drew=w3 at Fh Ec⊢;have⟨c0,c1,c2,cf⟩:=Fh.s.c;cases B with
      | false =>
        have⟨r0,r1,r2,rf⟩:=Fh.r.c;have Pn:=I (HY.trans (f7 (HNI rfl)));have⟨z0,z1,z2,HZ,XZ⟩:=Fh.Eg Ec.o (p);have qq0:=@aB;exact yB
      | true =>
        have⟨Og,Wb⟩:=Gf.o rfl;have HCL:=I (zv (w:=w3) (p:=p) Ec.v.ints Ec.x.rats LJ.o KW);clear cf B6;go_wp2_with fail;refine HCL.mono ?_;rintro e H ⟨⟨a4,n4,c4,b4,m4,d4,rfl,Hd⟩,DN⟩;refine z6 (show C8 (H.alloc (QD #[U p,GI a4 n4 c4,GI b4 m4 d4] 34)) H (U p) (GI a4 n4 c4) (GI b4 m4 d4)from IO rfl) ((Fh.ext DN).ext (C7.alloc H (QD #[U p,GI a4 n4 c4,GI b4 m4 d4] 34))) ((Ec.ext DN).ext (C7.alloc H (QD #[U p,GI a4 n4 c4,GI b4 m4 d4] 34))) (Hd.v.ext (C7.alloc H (QD #[U p,GI a4 n4 c4,GI b4 m4 d4] 34))) (show w3.heap.size<=H.heap.size from DN.size) (DN.trans (C7.alloc H (QD #[U p,GI a4 n4 c4,GI b4 m4 d4] 34))) λOy Ki DT E HGE Ov=>?_;have⟨w5,Fc⟩:=e9 (H.alloc (QD #[U p,GI a4 n4 c4,GI b4 m4 d4] 34));rw[<-Fc]at Oy Ki DT E Ov;go_upto_region 9 with fail;rw[<-Fc];clear Fc DN Hd c0 c1 c2;generalize H.heap.size=G at Oy HGE⊢;have Oj:n4=n:=by rw[<-E.ints.hlen,HVL.o]
        subst Oj;obtain⟨gv,rfl,Jd,WE,JK⟩:=E.block (show t<n4 by omega);have⟨hcv,K3⟩:=E.ints.aq9;have hft:=WE t;have NI:=E.GG.2.2.2 t j0;have⟨d0,d1,d2,df⟩:=Oy.c;have YS:G≠gv:=λe=>by
         have:=Oy.o;rw[e]at this;exact aq E.o this Fd rfl
        have R4:b9 (C7 w3 ((w5.setCell (O gv t) (U x)).setCell (O G 2) d6)):=(Ov.store (b:=gv) t Jd _).store (b:=G) 2 HGE.o _;have Ox:b9 (C8 ((w5.setCell (O gv t) (U x)).setCell (O G 2) d6) G (U p) (EQ gv n4 c4) d6):=C8.Ta (show C8 (w5.setCell (O gv t) (U x)) G _ _ _ from(GE w5 (O gv t) G _ YS).trans Oy) _;have HV7:b9 (r' ((w5.setCell (O gv t) (U x)).setCell (O G 2) d6) w3 (EQ gv n4 c4) (V.set t x)):=bg (E.set t x) ((GE w5 (O gv t) G _ YS).trans Oy) Fd;have WL:(w5.setCell (O gv t) (U x)).cell? (O G 2)=some (GI b4 m4 d4):=(C8.c ((GE w5 (O gv t) G _ YS).trans Oy)).2.2.1;have hdf:∀k,(w5.setCell (O gv t) (U x)).frozen? (O G k)=false:=(C8.c ((GE w5 (O gv t) G _ YS).trans Oy)).2.2.2;have⟨w7,Gh⟩:=e9 ((w5.setCell (O gv t) (U x)).setCell (O G 2) d6);rw[<-Gh]at R4 Ox HV7;have Qf:=I (bV (w:=w7) (p:=p) HV7.ints);have⟨ok,DL⟩:=e9 (ak p (V.set t x));rw[<-DL]at Qf;have ad:=I (show Z=if ok=true then(⟨p,V.set t x,[]⟩,Zs) else(⟨p,V,X⟩,Nw)by
         rw[HY.o,DL];by_cases h:ak p (V.set t x)=true
         ·rw[f9 ⟨Og,by rw[HVL.o];omega,h⟩,f9 h]
         rw[f7 (λq=>h q.2.2),f7 h])
        go_upto_region 11 with fail;rw[<-Gh];clear Gh DL WL hdf d0 d1 d2 df hft WE NI;have⟨d0,d1,d2,df⟩:=Ox.c;go_wp2_with fail;refine i7 Qf λw8 hx=>?_;refine Op (Fh.ext (R4.trans hx)) (Ec.ext (R4.trans hx)) (HV7.ext hx) (show C8 w8 G _ _ _ from hx.blk Ox) λN4 Mc HV8 Sa=>?_;clear d0 d1 d2 df;have⟨d0,d1,d2,df⟩:=Sa.c;have⟨c0,c1,c2,cf⟩:=N4.s.c;have⟨r0,r1,r2,rf⟩:=N4.r.c;have IH:=I (fy I2.o Fh.x.size);cases ok with
        | false =>
          have⟨z0,z1,z2,HZ,XZ⟩:=N4.Eg Mc.o (p);exact MB
        | true =>
          have Gn:b9 (aK w8 base (some (O gv 0)) n4 c4 none 0 0 (V.set t x) []):=I ⟨HV8.mono IH.o,qj⟩;have⟨z0,z1,z2,HZ,XZ⟩:=N4.Eg Gn.o (p);exact MB
 have hne:((n1:Int) != 2)=true:=m9;have Pn:=I (show Z=(⟨p,V,X⟩,fG)by rw[Y9.o,f7 (by rw[HN1.o];exact Nf)]);have⟨r0,r1,r2,rf⟩:=HT1.r.c;have⟨z0,z1,z2,HZ,XZ⟩:=HT1.Eg HO1.o (p);have qq0:=@aB;exact yB
end
