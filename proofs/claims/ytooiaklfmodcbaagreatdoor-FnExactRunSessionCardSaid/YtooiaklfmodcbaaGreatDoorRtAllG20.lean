import Derived.Test.YtooiaklfmodcbaaGreatDoorRtAllG56
set_option linter.all false
set_option maxHeartbeats 6000000
set_option maxRecDepth 100000
namespace Go.Proofs.YtooiaklfmodcbaaGreatDoor
open Ending renaming returned->ar
open List renaming length->JL
open Obj renaming cells->QD
open Value renaming slice->GI,bool->bl,string->aE,pointer->aP
open Go.Proofs.Tryz Go.RowKit
variable{σ:Prop}
section
def mq{P Q:Prop}(k:p9 Q)(h:p9 Q->P:=by intro k;refine tk 0 ?_;refine tk 1 ?_;refine tk 2 ?_;exact k.1):P:=h k
def LA{P Q:Prop}(k:p9 Q)(h:p9 Q->P:=by intro k;refine tk 14 ?_;refine tk 15 ?_;refine tk 16 ?_;refine tk 17 ?_;refine tk 18 ?_;refine tk 19 ?_;refine tk 20 ?_;refine tk 21 ?_;refine tk 22 ?_;exact k.1):P:=h k
def vA{P Q:Prop}(k:p9 Q)(h:p9 Q->P:=by intro k;refine tk 0 ?_;refine tk 1 ?_;refine tk 2 ?_;refine tk 3 ?_;refine tk 4 ?_;refine tk 5 ?_;refine tk 6 ?_;refine tk 7 ?_;refine tk 8 ?_;refine tk 9 ?_;refine tk 10 ?_;refine tk 11 ?_;refine tk 12 ?_;refine tk 13 ?_;exact k.1):P:=h k
def af{H E A2 A3 A4 A5 A6 P:Prop}(a0:H)(a1:E)(a2:A2)(a3:A3)(Z:A4)(Q:A5)(K:A6)(h:b9 H->b9 E->b9 A2->b9 A3->b9 A4->b9 A5->b9 A6->P):P:=h a0 a1 a2 a3 Z Q K
def XG(h:σ:=by first|with_reducible exact o7.trans B0|with_reducible exact D0.trans B0|with_reducible exact(o7.trans (C7.alloc _ _)).trans B0):σ:=h
def N5(h:σ:=by rw[EW.o];omega):σ:=h
def cd(h:σ:=by rw[<-F9.o];exact DT):σ:=h
def QZ(h:σ:=by simp[results,results314,go_sem,r0,r1,r2,rf]):σ:=h
def Yy(h:σ:=by rw[<-K8.o];have:=Qd.o;omega):σ:=h
def UR(h:σ:=by rw[Ow.o];omega):σ:=h
def ER(h:σ:=by have:=DT.o;rw[yf,<-eo]at this;exact this):σ:=h
def X9(h:σ:=by have:=DT.o;rw[<-eo]at this;exact this):σ:=h
def Up{P Q:Prop}(q:Q)(h:Q->P:=by intro q;go_roundg (gk-1);exact q;have:=PU.o;omega):P:=h q
variable{t:Tb}{k i n j r:Nat}{M:List (l7)}{main:l7}
def J2(st cc bi bb:Int):Bool:=decide (st<0)||(decide (cc<0)||(decide (cc=0)&&decide (bi<bb)))
theorem wT{c:Nat}{st:Int×(Int×Int)}{p:o4}(E:t.at k c=p)(h:DM p (0,1)<=0):eH t c st k=st:=by
 unfold eH;rw[E,f9 h]
theorem wU{c:Nat}{st:Int×(Int×Int)}{u:Nat}{p q:o4}(E:u=t.A6.toNat+JL t.rows)(K:t.at k c=p)(H:t.at k u=q)(h:¬DM p (0,1)<=0)(Q:(F1 q p).2=false):eH t c st k=st:=by
 unfold eH;rw[K,f7 h,<-E,H,f9 Q]
theorem wV{c:Nat}{st:Int}{l:o4}{u:Nat}{p q d:o4}(K:u=t.A6.toNat+JL t.rows)(Z:t.at k c=p)(Q:t.at k u=q)(h:¬DM p (0,1)<=0)(hd:F1 q p=(d,true)){E H:Int}(hb:t.basis[k]?.getD 0=E)(FD:t.basis[st.toNat]?.getD 0=H):
 eH t c (st,l) k=if J2 st (DM d l) E H=true then((k:Int),d) else(st,l):=by
 unfold eH;rw[Z,f7 h,<-K,Q,hd,f7 j7];simp only[hb,FD,J2,Bool.or_eq_true,eI,ef]
theorem ld(t:Tb)(c:Nat):∀k,(cU t c k).1=-1∨(0<=(cU t c k).1/\(cU t c k).1<k)
 | 0=>.inl rfl
 | k+1=>by
   have ih:=ld t c k
   show(eH t c (cU t c k) k).1=-1∨(0<=(eH t c (cU t c k) k).1/\(eH t c (cU t c k) k).1<((k+1:Nat):Int));unfold eH
   split
   ·omega
   split
   ·omega
   split
   ·right;simp;omega
   omega
section
variable{w:J}{ra:l9}{rn rc:Nat}{ba:l9}{bn bc:Nat}{t:Tb}
def OO(h:σ:=by
 clear hx;go_wp2_with fail;refine er ?_;exact⟨k+1,st,l1,l2,I (k8 HK.o),by go_num,rfl,F4,En⟩
 ):σ:=h
def Ov(h:σ:=by
 go_wp2_with fail;refine er ?_;exact⟨k+1,(k:Int),d1,d2,I (k8 HK.o),by go_num,rfl,F4,OC⟩
 ):σ:=h
def ss(h:σ:=by
 go_wp2_with fail;refine er ?_;exact⟨k+1,st,l1,l2,I (k8 HK.o),by go_num,rfl,F4,FI⟩
 ):σ:=h
theorem wC(h:OT w ra rn rc ba bn bc t)(IT:rn<=100000)(DU:Int):
 f8 312 #[Oe ra rn rc ba bn bc t.A6,U DU] w (U (dL t DU)):=by
 have HF:=I (kz (h.ext (C7.alloc w (de ra rn rc ba bn bc t.A6))) j0);have HTP:=I (λok=>iN h ok);obtain⟨rows,basis,x⟩:=t;have B8:=C7.alloc w (de ra rn rc ba bn bc x);have A8:=I B8;have H:=I (h.ext B8);have⟨Eh,FZ⟩:=h.rows.aq9;have⟨E6,Ew⟩:=h.basis.aq9;have Ft:=I h.rows.hlen;have HE:=I (show dL ⟨rows,basis,x⟩ DU=if(Ib ⟨rows,basis,x⟩&&A4 DU 0 (x+(rn:Int)-1))=true then(cU ⟨rows,basis,x⟩ DU.toNat rn).1 else -1 by
  unfold dL;simp only;rw[h.rows.hlen])
 clear h B8;show Calls _ _ #[Oe ra rn rc ba bn bc x,U DU] w _;cases DL:Ib ⟨rows,basis,x⟩
 ·rw[DL]at HF;have HN:=I (show dL ⟨rows,basis,x⟩ DU=-1 by rw[HE.o,DL];rfl);clear DL;go_in
  go_wp2_with fail;refine IR HF λw1 hx=>?_;have qq0:=@au;exact o'
 rw[DL]at HF;have⟨m,P6,hm,Nj,Fq,I2⟩:=HTP.o DL;simp only at P6;subst P6 Nj;have hre:=I DL;replace Fq:=I Fq;replace I2:=I I2;clear DL;have Z:=I (λw=>av DU 0 ((m:Int)+(bn:Int)-1) w);cases D7:A4 DU 0 ((m:Int)+(bn:Int)-1)
 ·have HN:=I (show dL ⟨rows,basis,(m:Int)⟩ DU=-1 by rw[HE.o,D7];simp);simp only[D7]at Z;clear D7;go_in
  go_wp2_with fail;refine i7 HF λw1 hx=>?_;have c0:w1.cell? (O w 0)=some (GI ra bn rc):=hx.o6 j7;have c2:w1.cell? (O w 2)=some (U m):=hx.o6 j7;have X1:=I (A8.trans hx);go_wp2_with fail;refine(Z _).mono ?_;rintro e w2 ⟨rfl,rfl⟩;go_wp2;go_ret;exact⟨au HN.symm,X1⟩
 obtain⟨c,rfl⟩:∃c:Nat,DU=c:=⟨DU.toNat,by simp[A4]at D7;omega⟩;have hc:c<m+bn:=by simp[A4]at D7;omega
 have HR:=I (show dL ⟨rows,basis,(m:Int)⟩ (c:Int)=(cU ⟨rows,basis,(m:Int)⟩ c bn).1 by rw[HE.o,hre.out,D7];simp);simp only[D7]at Z;clear D7;have⟨u,hu⟩:=e9 (m+bn);have HU:=I (show u=(Tb.mk rows basis (m:Int)).A6.toNat+(Tb.mk rows basis (m:Int)).rows.length by show u=Int.toNat (m:Int)+JL rows;rw[show rows.length=bn from Ft.o];omega);have HUM:=I hu;have hcu:c<u:=j0;have hub:u<=200000:=j0;clear hu;go_in
 go_wp2_with fail;refine i7 HF λw1 hx=>?_;have c0:w1.cell? (O w 0)=some (GI ra bn rc):=hx.o6 j7;have c1:w1.cell? (O w 1)=some (GI ba bn bc):=hx.o6 j7;have c2:w1.cell? (O w 2)=some (U m):=hx.o6 j7;refine t8 c1 (A8.trans hx) (H.ext hx) λC1 X1 H1=>?_;have IK:w.heap.size<w1.heap.size:=by have:=hx.size;simp at this;omega
 clear c1;go_wp2_with fail;refine(Z _).mono ?_;rintro e w2 ⟨rfl,rfl⟩;have Ko:=I (ah.new (C7.refl w1) 0 0);go_wp2
 go_loopg [5,30] bn (λgk bst ii wr=>∃(k:Nat) (st l1 l2:Int),b9 (gk+k=bn)/\ii=U k/\bst=U st/\b9 (cU ⟨rows,basis,(m:Int)⟩ c k=(st,(l1,l2)))/\b9 (ah w1 wr w1 l1 l2))
 ·exact⟨0,-1,0,0,I j0,rfl,rfl,I rfl,Ko⟩
 obtain⟨k,st,l1,l2,HK,rfl,rfl,HL,HB⟩:=hrel;clear c0 c2;by_cases hlt:k<bn
 ·have⟨zb,ED,za,zn,zc,JA,F8,z8⟩:=(H1.ext HB.ext).rows.at hlt;subst JA;have Te:zn=u+1:=by rw[<-z8.hlen,HUM.o];exact Fq.o k hlt
  have HZN:=I Te;have⟨LU,hrm⟩:=z8.aq9;have Hy:=I z8;have⟨yb,Et,p,q,KY,D4,JC,EN⟩:=z8.at (show c<zn by omega);subst KY;have EJ:b9 (Tb.at ⟨rows,basis,(m:Int)⟩ k c=(p,q)):=D4;have HS:=I (VQ p q wr);have⟨sg,J7⟩:=e9 (DM (p,q) (0,1));have K8:=I J7;rw[<-J7]at HS;have hcz:c<zn:=j0;clear D4 J7 z8 Te;by_cases Ks:sg<=0
  ·have F4:=I (show cU ⟨rows,basis,(m:Int)⟩ c (k+1)=(st,(l1,l2))by
    show eH _ c (cU _ c k) k=_;rw[HL.o];exact wT EJ.o (by rw[<-K8.o];exact Ks))
   go_wp2_with fail;refine IR HS λw3 hx=>?_;have En:=I (HB.grow hx);exact OO
  have Qd:=I Ks;go_wp2_with fail;refine i7 HS λw3 hx=>?_;have En:=I (HB.grow hx);replace JC:=hx.o6 JC;replace EN:=hx.o6 EN;have⟨ub,Zw,p',q',hua,Wq,KH,JD⟩:=(Hy.ext hx).at (show u<zn by have:=HZN.o;omega);obtain⟨rfl,rfl⟩:=aM hua;clear hua;have HQQ:b9 (Tb.at ⟨rows,basis,(m:Int)⟩ k u=(p',q')):=Wq;obtain⟨d1,d2,MU,hdd⟩:∃x y ok,F1 (p',q') (p,q)=((x,y),ok):=⟨_,_,_,rfl⟩;have Km:=I hdd;clear Wq hdd F8;have YL:IntKind.i64.wrap ((zn:Int)-1)=(u:Int):=by have:=HZN.o;rw[mn];omega
  have KZ:=ST u;have Kr:(u:Int)<(zn:Int):=k8 HZN.o;have D1:=ST c;have Eu:=Rd c zn;go_upto_region 9 with fail
  go_cut [9,10] (λsx so wx=>∃g:Nat,sx=aP (some (O g 0))/\so=bl MU/\b9 (ah w3 wx g d1 d2))
  case first =>
   have o7:=C7.drew w3;have D0:C7 w3 (w3.alloc (QD #[U 0,U 0] 56)).drew:=WU.trans cn;have o8:=I (λ(w':J) (h:C7 w3 w')=>(an (h.o6 JC) (an (h.o6 EN) (an (h.o6 KH) (an (h.o6 JD) h)))))
   go_region_held3 (λw'=>w'.cell? (O yb (Et+c*2))=some (U p)/\w'.cell? (O yb (Et+c*2+1))=some (U q)/\w'.cell? (O yb (Et+u*2))=some (U p')/\w'.cell? (O yb (Et+u*2+1))=some (U q')/\C7 w3 w')
    (exact Hz)
    (first
      | ((with_reducible refine(wu p' q' p q _).mono ?_)
         rw[Km.o];rintro e w5 ⟨rfl,B0⟩
         first|(with_reducible have A1:=ah.grow A1 B0)|(with_reducible have A1:=ah.DS B0)|(with_reducible have A1:=ah.DX o7 B0)|skip
         first|(have IX:=A1.c0;have IW:=A1.c1;have Kf:=A1.free)|skip
         have o7:C7 w3 w5:=XG;have FB:=o7.size))
   all_goals(exact Jm)
  obtain⟨g,rfl,rfl,Ee⟩:=hcut;clear YL KZ Kr D1 Eu JC EN KH JD;have FI:=I (En.grow Ee.ext);cases MU
  ·have F4:=I (show cU ⟨rows,basis,(m:Int)⟩ c (k+1)=(st,(l1,l2))by
    show eH _ c (cU _ c k) k=_;rw[HL.o];exact wU HU.o EJ.o HQQ.o Yy (by rw[Km.o]))
   exact ss
  have g0:=Ee.c0;have g1':=Ee.c1;have b0:=FI.c0;have b1:=FI.c1;have H6:=I (gH d1 d2 l1 l2 wc);have⟨cc,Oc⟩:=GT (DM (d1,d2) (l1,l2));rw[<-Oc.o]at H6;go_wp2_with fail;refine i7 H6 λw6 hx=>?_;have I':=I (FI.grow hx);have HG6:=I (Ee.grow hx);clear g0 g1' b0 b1;have c1:=I'.ext.o6 C1.o;have⟨K,DI,IU,Fg⟩:=(H1.ext I'.ext).basis.at hlt;subst IU;have⟨bi,O'⟩:=GT (basis[k]?.getD 0);rw[<-O'.o]at Fg;have H7:=I (ld ⟨rows,basis,(m:Int)⟩ c k);have KN:=ST k;have Gj:=Rd k bn;have HUP:=I (λE (FD:basis[st.toNat]?.getD 0=E)=>show cU ⟨rows,basis,(m:Int)⟩ c (k+1)=if J2 st cc bi E=true then((k:Int),(d1,d2)) else(st,(l1,l2))by
   show eH _ c (cU _ c k) k=_;rw[HL.o,Oc.o];exact wV HU.o EJ.o HQQ.o Yy Km.o O'.symm FD)
  go_upto_region 12 with fail
  go_cut [82] (λs82 wx=>∃E:Int,s82=bl (J2 st cc bi E)/\b9 (basis[st.toNat]?.getD 0=E)/\b9 (C7 w6 wx))
  case first =>
   have o7:=C7.drew w6;by_cases hst:st<0
   ·have Nh:decide (st<0)=true:=UV hst;refine nE (S:=(λw'=>w'.cell? (O w 1)=some (GI (some (O K DI)) bn bc)/\w'.cell? (O K (DI+k))=some (U bi)/\C7 w6 w')) j8 ?_ (λo9=>?_)
    ·exact⟨o7.o6 c1,o7.o6 Fg,o7⟩
    refine vA ⟨?_⟩;refine LA ⟨?_⟩;refine Pi j8 ?_ _;go_wp2;go_meet;exact⟨_,by unfold J2;rw[Nh];rfl,I rfl,I o7⟩
   have Nh:decide (st<0)=false:=Ok j0;obtain⟨sn,rfl⟩:∃sn:Nat,st=sn:=⟨st.toNat,by omega⟩;have YO:sn<bn:=by have:=H7.o;rw[HL.o]at this;simp only at this;omega
   have⟨fb,NQ,hfa,Pk⟩:=(H1.ext I'.ext).basis.at YO;obtain⟨rfl,rfl⟩:=aM hfa;clear hfa;have⟨E,FD⟩:=e9 (basis[sn]?.getD 0);have Gf:=I (show basis[Int.toNat (sn:Int)]?.getD 0=E by rw[gg,FD]);rw[<-FD]at Pk;have hs0':=ST sn;have hs1':=Rd sn bn;clear FD;by_cases hcc:cc<0
   ·have PH:decide (cc<0)=true:=UV hcc;refine nE (S:=(λw'=>w'.cell? (O w 1)=some (GI (some (O K DI)) bn bc)/\w'.cell? (O K (DI+k))=some (U bi)/\C7 w6 w')) j8 ?_ (λo9=>?_)
    ·exact⟨o7.o6 c1,o7.o6 Fg,o7⟩
    refine vA ⟨?_⟩;refine LA ⟨?_⟩;refine Pi j8 ?_ _;go_wp2;go_meet;exact⟨E,by unfold J2;rw[Nh,PH];rfl,Gf,I o7⟩
   have PH:decide (cc<0)=false:=Ok j0;by_cases D1:cc=0
   ·subst D1;refine nE (S:=(λw'=>w'.cell? (O w 1)=some (GI (some (O K DI)) bn bc)/\w'.cell? (O K (DI+k))=some (U bi)/\w'.cell? (O K (DI+sn))=some (U E)/\C7 w6 w')) j8 ?_ (λo9=>?_)
    ·exact⟨o7.o6 c1,o7.o6 Fg,o7.o6 Pk,o7⟩
    refine vA ⟨?_⟩;refine LA ⟨?_⟩;refine Pi j8 ?_ _;go_wp2;go_meet;exact⟨E,by unfold J2;rw[Nh];rfl,Gf,I o7⟩
   have WL:(cc == 0)=false:=m9;refine nE (S:=(λw'=>w'.cell? (O w 1)=some (GI (some (O K DI)) bn bc)/\w'.cell? (O K (DI+k))=some (U bi)/\C7 w6 w')) j8 ?_ (λo9=>?_)
   ·exact⟨o7.o6 c1,o7.o6 Fg,o7⟩
   refine vA ⟨?_⟩;refine LA ⟨?_⟩;refine Pi j8 ?_ _;go_wp2;go_meet;exact⟨E,by unfold J2;rw[Nh,PH,Ok D1];rfl,Gf,I o7⟩
  obtain⟨E,rfl,Gf,R4⟩:=hcut;refine t8 (I'.grow R4) (HG6.grow R4) (HUP E Gf) λKn Si Y7=>?_;clear c1 Fg;cases V8:J2 st cc bi E
  ·have F4:=I (show cU ⟨rows,basis,(m:Int)⟩ c (k+1)=(st,(l1,l2))by rw[Y7.o,V8];rfl);go_wp2_with fail;refine er ?_;exact⟨k+1,st,l1,l2,I (k8 HK.o),by go_num,rfl,F4,Kn⟩
  have F4:=I (show cU ⟨rows,basis,(m:Int)⟩ c (k+1)=((k:Int),(d1,d2))by rw[Y7.o,V8];rfl);have g0:=Si.c0;have g1':=Si.c1;have b0:=Kn.c0;have b1:=Kn.c1;have bf:=Kn.free;have OC:=I ((Kn.grow (C7.drew wc)).put d1 d2);go_upto_region 13 with fail
  go_still_tail 3,j8
  exact Ov
 have DV:bn=k:=k8 HK.o;subst DV;have HY:=I (show dL ⟨rows,basis,(m:Int)⟩ (c:Int)=st by rw[HR.o,HL.o]);go_wp2;go_ret;exact⟨au HY.symm,X1.trans HB.ext⟩
end
theorem Im.Mj{w:J}{base G N cap:Nat}{vs:List arQ}(h:Im w base (some (O G 0)) N cap vs M){g c:Nat}(hi:i<N)(hv:vs[i]?.getD undef=EQ g n c)(H:j<JL (M[i]?.getD []))(x y:Int):
 Im ((w.setCell (O g (j*2)) (U x)).setCell (O g (j*2+1)) (U y)) base (some (O G 0)) N cap vs (M.set i ((M[i]?.getD []).set j (x,y))):=by
 have Jr:i<JL M:=by rw[h.len];exact hi
 have hr:=h.rows.row i Jr;rw[hv]at hr;have YS:g≠G:=λe=>hr.apart h.own g rfl RO
 have E:∀k,k≠g->((w.setCell (O g (j*2)) (U x)).setCell (O g (j*2+1)) (U y)).heap[k]?=w.heap[k]?:=λk hk=>by
  rw[GE _ _ _ _ hk,GE _ _ _ _ hk]
 refine⟨h.own.keep λk hk=>E k Qq,?_⟩;refine⟨by rw[k7];exact h.rows.len,λk hk=>?_,λa b k K hb=>h.rows.apart a b k K (by rw[k7]at hb;exact hb)⟩;rw[k7]at hk;by_cases G4:k=i
 ·subst G4;rw[hv,vY Jr];exact hr.set H x y
 rw[sq (yx G4)];refine(h.rows.row k hk).keep λb hb=>E b λe=>?_;exact Ht
structure MX(w:J)(base g G N cap:Nat)(vb:arQ)(x:Int)(vs:List arQ)(M:List (l7))(l:o3):Prop where
 box:w.heap[g]?=some (QD #[EQ G N cap,vb,U x] 151 (0,0))
 hg:base<=g
 m:Im w base (some (O G 0)) N cap vs M
 b:r' w base vb l
section
variable{w:J}{base g G N cap:Nat}{vb:arQ}{x:Int}{vs:List arQ}{M:List (l7)}{l:o3}
theorem MX.ext{w':J}(h:MX w base g G N cap vb x vs M l)(hx:C7 w w'):MX w' base g G N cap vb x vs M l:=⟨(hx.block _ (In h.box)).trans h.box,h.hg,h.m.ext hx,h.b.ext hx⟩
theorem MX.own(h:MX w base g G N cap vb x vs M l):Fp w base (EQ G N cap) vb vs ⟨M,l,x⟩:=⟨h.m.own,h.m.rows,h.b⟩
theorem MX.c0(h:MX w base g G N cap vb x vs M l):w.cell? (O g 0)=some (EQ G N cap):=aw h.box
theorem MX.agj(h:MX w base g G N cap vb x vs M l){i:Nat}{g':Nat}(hi:i<JL M)(E:(vs[i]?.getD undef).ownBlock=some g'):g'≠g/\vb.ownBlock≠some g':=by
 have hr:=h.m.rows.row i hi;exact⟨λe=>(aq hr h.box Fd) (by rw[E,e]),λe=>aL Fd hr h.b g' E e⟩
theorem MX.Mj(h:MX w base g G N cap vb x vs M l){i n g' c:Nat}(hi:i<N)(E:vs[i]?.getD undef=EQ g' n c){j:Nat}(K:j<JL (M[i]?.getD []))(p q:Int):
 MX ((w.setCell (O g' (j*2)) (U p)).setCell (O g' (j*2+1)) (U q)) base g G N cap vb x vs (M.set i ((M[i]?.getD []).set j (p,q))) l:=by
 have⟨H,Q⟩:=h.agj (i:=i) (g':=g') (by rw[h.m.len];exact hi) (by rw[E];rfl);refine⟨?_,h.hg,h.m.Mj hi E K p q,h.b.keep λk hk=>?_⟩
 ·rw[GE _ _ _ _ H.symm,GE _ _ _ _ H.symm];exact h.box
 have:k≠g':=λe=>Q RA
 rw[GE _ _ _ _ this,GE _ _ _ _ this]
theorem MX.put{H:J}(h:MX w base g G N cap vb x vs M l)(hx:C7 w H)(hb:base<=w.heap.size){v:arQ}{r:l7}(ho:WV H w v r){i:Nat}(hi:i<N):
 MX (H.setCell (O G i) v) base g G N cap vb x (vs.set i v) (M.set i r) l:=by
 have E:=h.ext hx;have Q:g≠G:=λe=>(aq h.m.own h.box Fd) (by rw[e];rfl)
 refine⟨by rw[GE _ _ _ _ Q];exact E.box,h.hg,h.m.put hx hb ho hi,E.b.keep λk K=>GE _ _ _ _ λe=>?_⟩;exact aL Fd E.b E.m.own k K RO
theorem MX.putB{B n bc:Nat}(h:MX w base g G N cap (EQ B n bc) x vs M l)(i:Nat)(z:Int):
 MX (w.setCell (O B i) (U z)) base g G N cap (EQ B n bc) x vs M (l.set i z):=by
 have H:g≠B:=λe=>(aq h.b h.box Fd) (by rw[e];rfl)
 refine⟨by rw[GE _ _ _ _ H];exact h.box,h.hg,h.m.keep (λk E=>GE _ _ _ _ λe=>?_) (λj k K E=>GE _ _ _ _ λe=>?_),h.b.set i z⟩
 ·exact aL Fd h.m.own h.b k E RO
 exact aL Fd (h.m.rows.row j (by rw[h.m.len];exact K)) h.b k E RO
end
def ez(t:Tb)(row DU:Int):Tb:=(bW t row DU).getD t
theorem CW{row DU:Int}(h:fe t row DU=false):bW t row DU=none:=by unfold bW;rw[h];rfl
theorem mG{c:Nat}(h:fe t (r:Int) (c:Int)=true):bW t r c=iH t r c:=by unfold bW;rw[f9 h];rfl
theorem mF{c:Nat}(h:JM (t.row r) (t.at r c)=none):iH t r c=none:=by unfold iH;rw[h];rfl
theorem pF{c:Nat}(h:JM (t.row r) (t.at r c)=some main):iH t r c=(Gb t r c main (JL t.rows)).map λrs=>⟨rs,t.basis.set r (c:Int),t.A6⟩:=by unfold iH;rw[h];rfl
theorem uD{c:Nat}(h:Gb t r c main k=none):∀{n:Nat},k<=n->Gb t r c main n=none
 | n,hn=>by
   obtain⟨d,rfl⟩:∃d,n=k+d:=⟨n-k,by omega⟩;clear hn
   induction d with
   | zero=>exact h
   | succ d ih=>show(Gb t r c main (k+d)).bind _=none;rw[ih];rfl
theorem uC{t:Tb}{r c:Nat}{main:l7}(hr:r<JL t.rows):∀{k:Nat} {M:List (l7)},Gb t r c main k=some M->JL M=JL t.rows/\M[r]?.getD []=main
 | 0,M,h=>by
   simp only[Gb,bq]at h;subst h;exact⟨by simp,by rw[vY hr];rfl⟩
 | k+1,M,h=>by
   simp only[Gb]at h;cases e:Gb t r c main k with
   | none=>rw[e]at h;cases h
   | some s0 =>
     rw[e]at h;simp only[mr]at h;have⟨H,E⟩:=uC hr e;unfold Vj at h
     split at h
     ·simp only[bq]at h;subst h;exact⟨H,E⟩
     next hn =>
     rw[Sc]at h;obtain⟨x,_,rfl⟩:=h;refine⟨by rw[k7,H],?_⟩;rw[sq (λe=>hn (.inl e))];exact E
theorem uE{c:Nat}(h:Gb t r c main k=some M)(hs:k=r∨t.at k c=(0,1)):Gb t r c main (k+1)=some M:=by
 simp only[Gb,h,mr,Vj,f9 hs]
theorem zM{c:Nat}(h:Gb t r c main k=some M)(hs:¬(k=r∨t.at k c=(0,1))):Gb t r c main (k+1)=(Gu (t.row k) (C5 (t.at k c)) main).map λx=>M.set k x:=by
 simp only[Gb,h,mr,Vj,f7 hs]
theorem Ri{r m:l7}{q:o4}(hm:JL m=j)(E:j<JL r):(m++r.drop j).set j q=(m++[q])++r.drop (j+1):=by
 rw[ct _ _ j0,hm,Y',RQ E,MY,yf];rfl
def Tx(w:J)(base:Nat)(e:Ending)(t:Tb)(ok:Bool):Prop:=∃va vb vs,e=ar (.tuple #[.agg #[va,vb,U t.A6],bl ok])/\Fp w base va vb vs t
section
variable{w:J}{ra:l9}{rn rc:Nat}{ba:l9}{bn bc:Nat}{t:Tb}
theorem ry(h:OT w ra rn rc ba bn bc t)(IT:rn<=100000)(MP:bn<=100000)(J9:∀i,i<rn->JL (t.row i)<=1048576)(row DU:Int)(hno:fe t row DU=false):
 Calls prog 314 #[Oe ra rn rc ba bn bc t.A6,.int .i64 row,.int .i64 DU] w λe w'=>Tx w' w e t false/\C7 w w':=by
 have B8:=(C7.alloc w (de ra rn rc ba bn bc t.A6)).trans (C7.alloc _ (QD #[GI none 0 0,GI none 0 0,.int .i64 0] 151));have⟨W,K⟩:=e9 ((w.alloc (de ra rn rc ba bn bc t.A6)).alloc (QD #[GI none 0 0,GI none 0 0,.int .i64 0] 151));rw[<-K]at B8;have A8:=I B8;have H:=I (h.ext B8);have HF:=I (kz H.o j0);have HTP:=I (λok=>iN h ok);have HCL:=I (λ(w':J) (hx:C7 W w')=>lN (H.ext hx) j0 j0 J9);have Z:=I (show W.heap[w.heap.size+1]?=some (QD #[GI none 0 0,GI none 0 0,.int .i64 0] 151 (0,0))by rw[K];exact IO j7);have E:=I (show W.heap[w.heap.size]?=some (QD #[GI ra rn rc,GI ba bn bc,.int .i64 t.A6] 151 (0,0))by rw[K,aZ _ _ _ j7];exact IO rfl);have IH:=I (show W.heap.size=w.heap.size+1+1 by rw[K];simp);have Eh:=h.rows.r8;have FZ:=h.rows.r9;obtain⟨rows,basis,x⟩:=t;have Hp:=I (show(Ib ⟨rows,basis,x⟩&&(A4 row 0 ((rn:Int)-1)&&A4 DU 0 (x+(rn:Int)-1)))=false by
  have:=hno;unfold fe at this;simp only at this;rw[h.rows.hlen]at this;exact this)
 clear h B8 J9 hno;show Calls _ _ #[Oe ra rn rc ba bn bc x,.int .i64 row,.int .i64 DU] w _;cases DL:Ib ⟨rows,basis,x⟩
 ·rw[DL]at HF;clear DL;go_in
  go_upto_region 1 with fail;rw[<-K];clear K;have p0:=aw E.o;have p1:=aI E.o;have p2:=aJ E.o;go_wp2_with fail;refine IR HF λw1 hx=>?_;have X1:=I hx;clear hx p0 p1 p2;have p0:=aw (X1.blk E);have p1:=aI (X1.blk E);have p2:=aJ (X1.blk E);go_wp2_with fail;refine(HCL _ X1).mono ?_;rintro e w2 ⟨⟨va,vb,vs,rfl,ho⟩,hx⟩;have X2:=I (X1.trans hx);have HO:=I ho;obtain⟨a7,n7,c7,rfl,My⟩:=ho.a.var;obtain⟨a8,n8,c8,rfl,M7⟩:=ho.b.var;have r0:=aw (X2.blk Z);have r1:=aI (X2.blk Z);have r2:=aJ (X2.blk Z);have rf:=dZ (X2.blk Z);have hsz:=X1.size;have hww:=IH.o;clear hx ho p0 p1 p2;go_wp2;refine Fn (v:=.tuple #[.agg #[GI a7 n7 c7,GI a8 n8 c8,.int .i64 x],bl false]) QZ rfl ⟨⟨_,_,vs,rfl,(HO.FJ λk hk=>dS _ _ _ _ _ _ j0).mono j0⟩,(A8.trans X2).IM (b7 _) _ _ _⟩
 rw[DL]at HF;obtain⟨m,P6,hm,Nj,_,_⟩:=HTP.o DL;simp only at P6;subst P6 Nj;refine t8 (show(A4 row 0 ((bn:Int)-1)&&A4 DU 0 ((m:Int)+(bn:Int)-1))=false by have:=Hp.o;rw[DL]at this;simpa using this) (λw=>av row 0 ((bn:Int)-1) w) (λw=>av DU 0 ((m:Int)+(bn:Int)-1) w) λaeO M4 I7=>?_;clear DL;cases D7:A4 row 0 ((bn:Int)-1)
 case' true =>
  have JJ:A4 DU 0 ((m:Int)+(bn:Int)-1)=false:=by have:=aeO.o;rw[D7]at this;simpa using this
  simp only[JJ]at I7;clear JJ
 all_goals
  simp only[D7]at M4;clear D7;go_in
  go_upto_region 1 with fail;rw[<-K];clear K;have p0:=aw E.o;have p1:=aI E.o;have p2:=aJ E.o;go_wp2_with fail;refine IR HF λw1 hx=>?_;have X1:=I hx;clear hx p0 p1 p2;have p0:=aw (X1.blk E);have p1:=aI (X1.blk E);have p2:=aJ (X1.blk E);go_wp2_with fail;refine(M4 _).mono ?_;rintro e w1' ⟨rfl,rfl⟩;go_wp2_with fail
 all_goals
  try(
   with_reducible refine(I7.o _).mono ?_
   rintro e w1' ⟨rfl,rfl⟩;go_wp2_with fail)
  refine(HCL _ X1).mono ?_;rintro e w2 ⟨⟨va,vb,vs,rfl,ho⟩,hx⟩;have X2:=I (X1.trans hx);have HO:=I ho;obtain⟨a7,n7,c7,rfl,My⟩:=ho.a.var;obtain⟨a8,n8,c8,rfl,M7⟩:=ho.b.var;have r0:=aw (X2.blk Z);have r1:=aI (X2.blk Z);have r2:=aJ (X2.blk Z);have rf:=dZ (X2.blk Z);have hsz:=X1.size;have hww:=IH.o;clear hx ho p0 p1 p2;go_wp2;refine Fn (v:=.tuple #[.agg #[GI a7 n7 c7,GI a8 n8 c8,.int .i64 (m:Int)],bl false]) QZ rfl ⟨⟨_,_,vs,rfl,(HO.FJ λk hk=>dS _ _ _ _ _ _ j0).mono j0⟩,(A8.trans X2).IM (b7 _) _ _ _⟩
end
section
variable{w:J}{ra:l9}{rn rc:Nat}{ba:l9}{bn bc:Nat}{t:Tb}
def Mr(h:σ:=by
 have p0:=aw (xf.blk HTB);have p1:=aI (xf.blk HTB);have p2:=aJ (xf.blk HTB);have XF:=I xf;clear xf;go_wp2_with fail;refine(HCL _ XF).mono ?_;rintro e w8 ⟨⟨va8,vb8,Zt,rfl,I4⟩,hx⟩;have X8:=I (XF.trans hx);have Mc:=I I4;obtain⟨a7,n7,c7,rfl,My⟩:=I4.a.var;obtain⟨a8,n8,c8,rfl,M7⟩:=I4.b.var;have r0:=aw (X8.blk EB);have r1:=aI (X8.blk EB);have r2:=aJ (X8.blk EB);have rf:=dZ (X8.blk EB);have hsz:=XF.size;have hww:=IH.o;clear hx I4 p0 p1 p2;go_wp2;refine Fn (v:=.tuple #[.agg #[GI a7 n7 c7,GI a8 n8 c8,U m],bl false]) QZ rfl ⟨?_,(A8.trans X8).IM (b7 _) _ _ _⟩;refine⟨GI a7 n7 c7,GI a8 n8 c8,Zt,?_,?_⟩
 ·unfold ez;rw[HN.o,XK,H6.o];rfl
 ·unfold ez;rw[HN.o,XK];exact(Mc.FJ λk hk=>dS _ _ _ _ _ _ j0).mono j0
 ):σ:=h
def Om(h:σ:=by
 unfold ez;rw[HN.o,Nm];exact(FW.own.FJ λk hk=>dS _ _ _ _ _ _ j0).mono j0
 ):σ:=h
def Yh(h:σ:=by
 rw[hGc k Ez];have:k<vs2.length:=by rw[No.m.GW];exact Ez
 simp[this]
 ):σ:=h
theorem rz(h:OT w ra rn rc ba bn bc t)(IT:rn<=100000)(MP:bn<=100000)(hval:∀i j,-9223372036854775807<=(t.at i j).1/\(t.at i j).1<=9223372036854775807)(row DU:Int)(RA:fe t row DU=true):
 Calls prog 314 #[Oe ra rn rc ba bn bc t.A6,.int .i64 row,.int .i64 DU] w λe w'=>Tx w' w e (ez t row DU) (bW t row DU).isSome/\C7 w w':=by
 have B8:=(C7.alloc w (de ra rn rc ba bn bc t.A6)).trans (C7.alloc _ (QD #[GI none 0 0,GI none 0 0,.int .i64 0] 151));have⟨W,hW⟩:=e9 ((w.alloc (de ra rn rc ba bn bc t.A6)).alloc (QD #[GI none 0 0,GI none 0 0,.int .i64 0] 151));rw[<-hW]at B8;have A8:=I B8;have H:=I (h.ext B8);have DL:Ib t=true:=by unfold fe at RA;simp only[eI]at RA;exact RA.1
 have HF:=I (kz H.o j0);rw[DL]at HF;have⟨m,P6,hm,Nj,Tk,aaE⟩:=iN h DL;subst Nj;have J9:∀i,i<bn->JL (t.row i)<=1048576:=λi hi=>by rw[Tk i hi];omega
 refine Op (λ(w':J) (hx:C7 W w')=>lN (H.ext hx) j0 j0 J9) (show W.heap[w.heap.size+1]?=some (QD #[GI none 0 0,GI none 0 0,.int .i64 0] 151 (0,0))by rw[hW];exact IO j7) (show W.heap[w.heap.size]?=some (QD #[GI ra bn rc,GI ba bn bc,.int .i64 t.A6] 151 (0,0))by rw[hW,aZ _ _ _ j7];exact IO rfl) (show W.heap.size=w.heap.size+1+1 by rw[hW];simp) λHCL EB HTB IH=>?_;have Eh:=h.rows.r8;have FZ:=h.rows.r9;obtain⟨rows,basis,x⟩:=t;simp only at P6;subst P6;have Ft:b9 (JL rows=bn):=h.rows.hlen;have FN:b9 (JL basis=bn):=h.basis.hlen;have D7:A4 row 0 ((bn:Int)-1)=true/\A4 DU 0 ((m:Int)+(bn:Int)-1)=true:=by
  have:=RA;unfold fe at this;simp only[eI]at this;rw[h.rows.hlen]at this;exact this.2
 obtain⟨aay,JJ⟩:=D7;obtain⟨r,rfl⟩:∃r:Nat,row=r:=⟨row.toNat,by simp[A4]at aay;omega⟩;obtain⟨c,rfl⟩:∃c:Nat,DU=c:=⟨DU.toNat,by simp[A4]at JJ;omega⟩;have EU:r<bn:=by simp[A4]at aay;omega
 have⟨u,hu⟩:=e9 (m+bn+1);have hcu:c<u:=by simp[A4]at JJ;omega
 have hub:u<=200000:=j0;have M4:=I (λw=>av (r:Int) 0 ((bn:Int)-1) w);have I7:=I (λw=>av (c:Int) 0 ((m:Int)+(bn:Int)-1) w);simp only[aay]at M4;simp only[JJ]at I7;have⟨T,hT⟩:=e9 (Tb.mk rows basis (m:Int));have Fq:=I (show∀i,i<bn->JL (T.row i)=u by rw[hT,hu];exact Tk);rw[<-hT]at RA;refine t8 (mG RA) (show T.rows=rows/\T.basis=basis/\T.A6=(m:Int)by rw[hT];exact⟨rfl,rfl,rfl⟩) (show∀i,T.row i=rows[i]?.getD []by intro i;rw[hT];rfl) λHYG I0 GA=>?_;rw[<-hT]at HCL;have HH:b9 (jf W ra bn rc rows):=H.rows;have H6:=I (show T.A6=(m:Int)by rw[hT]);rw[<-hT]at hval;have HVAL:=I hval;clear hval;rw[H6.o]at HCL;clear h B8 J9 RA aay JJ DL Tk aaE hu;have Wj:ez (Tb.mk rows basis (m:Int)) (r:Int) (c:Int)=ez T (r:Int) (c:Int)/\bW (Tb.mk rows basis (m:Int)) (r:Int) (c:Int)=bW T (r:Int) (c:Int):=by rw[hT];exact⟨rfl,rfl⟩
 rw[Wj.1,Wj.2];clear Wj hT;show Calls _ _ #[Oe ra bn rc ba bn bc (m:Int),.int .i64 (r:Int),.int .i64 (c:Int)] w _;have hrr:=Rd r bn;have Eb:=ST r
 go_in
 go_upto_region 1 with fail;rw[<-hW];clear hW;have p0:=aw HTB.o;have p1:=aI HTB.o;have p2:=aJ HTB.o;go_wp2_with fail;refine IR HF λw1 hx=>?_;have X1:=I hx;clear hx p0 p1 p2;have p0:=aw (X1.blk HTB);have p1:=aI (X1.blk HTB);have p2:=aJ (X1.blk HTB);go_wp2_with fail;refine(M4 _).mono ?_;rintro e w1' ⟨rfl,rfl⟩;go_wp2_with fail;refine(I7 _).mono ?_;rintro e w1' ⟨rfl,rfl⟩;go_wp2_with fail;refine(HCL _ X1).mono ?_;rintro e w2 ⟨⟨va,vb,vs,rfl,ho⟩,hx⟩;have X2:=I (X1.trans hx);obtain⟨aa,na,ca,rfl,SY⟩:=ho.a.var;obtain⟨ab,nb,cb,rfl,TJ⟩:=ho.b.var;obtain rfl:na=bn:=by have h1:=ho.rows.len;have h2:=I0.1;have h3:=Ft.o;have h4:=SY.o;rw[h2]at h1;omega
 obtain rfl:nb=na:=by have h1:=TJ.o;have h2:=I0.2.1;have h3:=FN.o;rw[h2]at h1;omega
 obtain⟨G,hG,_,_⟩:=ho.a.cell EU;subst hG;obtain⟨B,hB,_,_,_⟩:=ho.b.block EU;subst hB;have⟨E,hE⟩:=e9 (w2.alloc (QD #[GI (some ⟨G,0,none⟩) nb ca,GI (some ⟨B,0,none⟩) nb cb,.int .i64 (m:Int)] 151));have Gg:C7 w2 E:=by rw[hE];exact WU
 have adU:w1.heap.size<=w2.heap.size:=hx.size;have HVS:=I (λi g' (hi:i<nb) (he:(vs[i]?.getD undef).ownBlock=some g')=>((ho.rows.row i (by rw[I0.1,Ft.o];exact hi)).lt g' he).2)
 have Uk:=I (show MX E w1 w2 G nb ca (GI (some ⟨B,0,none⟩) nb cb) (m:Int) vs rows basis from
  ⟨by rw[hE];exact IO rfl,adU,⟨ho.a.ext Gg,by have:=ho.rows.ext Gg;rw[I0.1]at this;exact this⟩,by have:=ho.b.ext Gg;rw[I0.2.1]at this;exact this⟩)
 have XE:=I (X2.trans Gg);have X1E:=I (hx.trans Gg);have Wi:w.heap.size+1+1<=w1.heap.size:=by have:=X1.size;have:=IH.o;omega
 have hsE:w1.heap.size<=E.heap.size:=k8 Gg.size;have Yg:=I Gg.size;clear ho p0 p1 p2 hx;go_upto_region 4 with fail;rw[<-hE];clear hE Gg;have p0:=aw (XE.blk HTB);have⟨zb,ED,za,zn,zc,JA,VY,z8⟩:=HH.at EU;subst JA;have Te:zn=u:=by rw[<-z8.hlen,<-GA.o];exact Fq.o r EU
 subst Te;have hrc1:=z8.r8;have hrc2:=z8.r9;have Hy:=I (show i6 W za zn zc (T.row r)by rw[GA.o];exact z8);have HZW:=I VY;have⟨pb,Rv,pp,pq,hpa,KK,LV,MM⟩:=(Hy.ext XE).at hcu;subst hpa;have F8:=XE.o6 HZW.o;have M5:b9 (T.at r c=(pp,pq)):=KK;have TN:=I (Fq r EU);have hcc:=Rd c zn;have D1:=ST c;clear KK z8 VY;have⟨E2,hE2⟩:=e9 (E.alloc (QD #[.int .i64 pp,.int .i64 pq] 56));have ac9:C7 E E2:=by rw[hE2];exact WU
 have hsE2:E2.heap.size=E.heap.size+1:=by rw[hE2];simp
 refine t8 (Uk.ext ac9) (show E2.heap[E.heap.size]?=some (QD #[.int .i64 pp,.int .i64 pq] 56 (0,0))by rw[hE2];exact IO rfl) (X1E.trans ac9) λHM1 HPB aek=>?_;have hw2E:w2.heap.size<=E.heap.size:=Yg.o;have HSE2:=I hsE2;go_upto_region 5 with fail;rw[<-hE2];clear hE2 ac9 p0 F8 LV MM hsE2;have p0:=aw ((X1.trans aek).blk HTB);have F8:=(X1.trans aek).o6 HZW.o;go_wp2
 go_loopg [60] zn (λgk ii wr=>∃(k:Nat) (mm:l7),b9 (gk+k=zn)/\ii=.int .i64 (k:Int)/\b9 (LE (NS (T.row r) (T.at r c)) k=some mm)/\b9 (MX wr w1 w2 G nb ca (GI (some ⟨B,0,none⟩) nb cb) (m:Int) vs (rows.set r (mm++(T.row r).drop k)) basis)/\b9 (C7 w1 wr)/\b9 (wr.heap[E.heap.size]?=some (QD #[.int .i64 pp,.int .i64 pq] 56 (0,0))))
 case atStart =>
  refine⟨0,[],I j0,rfl,I rfl,I ?_,aek,HPB⟩;have h1:=HM1.o;have h2:rows.set r ([]++(T.row r).drop 0)=rows:=by
   rw[Qu,List.drop_zero,GA.o];refine Tz λi=>?_;by_cases hir:r=i
   ·subst hir;rw[vY (by rw[Ft.o];exact EU),Id (by rw[Ft.o];exact EU)];rfl
   rw[sq hir]
  rw[h2];exact h1
 rename Nat=>g1;rename J=>y9;obtain⟨k,mm,HK,rfl,KW,HT,HX,HP⟩:=hrel;clear p0 F8;have hsr:=HX.size;have LC:=In HP.o;by_cases hlt:k<zn
 ·have⟨xb,Nu,ex,ey,RE,hxv,B8,A'⟩:=(Hy.ext (X1.trans HX)).at hlt;simp only[bq,H4,E5]at RE;obtain⟨rfl,rfl⟩:=RE;have HXV:=I hxv;have q0:y9.cell? ⟨E,0,none⟩=some (.int .i64 pp):=(bO HP).1;have q1:y9.cell? ⟨E,1,none⟩=some (.int .i64 pq):=(bO HP).2.1;obtain⟨d1,d2,MU,hdd⟩:∃x y ok,F1 (ex,ey) (pp,pq)=((x,y),ok):=⟨_,_,_,rfl⟩;have TR:=I (show NS (T.row r) (T.at r c) k=if MU=true then some (d1,d2) else none by unfold NS;rw[HXV.o,M5.o,hdd]);have QS:=I (λw=>wu ex ey pp pq w);simp only[hdd]at QS;clear hxv hdd;go_wp2_with fail;refine IR (QS _) λw5 hx=>?_;have X5:=I ((C7.alloc y9 (QD #[.int .i64 ex,.int .i64 ey] 56)).trans hx);have X6:=I (X5.trans (C7.alloc w5 (QD #[.int .i64 d1,.int .i64 d2] 56)));have KJ:=X5.size;clear hx q0 q1;have⟨Z,hE5⟩:=e9 (w5.alloc (QD #[.int .i64 d1,.int .i64 d2] 56));have HQ:=I (show Z.heap[w5.heap.size]?=some (QD #[.int .i64 d1,.int .i64 d2] 56 (0,0))by rw[hE5];exact IO rfl);rw[<-hE5]at X6;cases MU
  ·have HN:=I (show bW T (r:Int) (c:Int)=none by
    rw[HYG.o];refine mF ?_;unfold JM;rw[TN.o];exact fs KW.o (by rw[TR.o];rfl) hlt)
   go_upto_region 10 with fail;rw[<-hE5];clear hE5;have xf:=((X1.trans HX).trans X6);exact Mr
  go_upto_region 11 with fail;rw[<-hE5];clear hE5;refine Op (ea (x:=(d1,d2)) KW.o (by rw[TR.o];rfl)) (cX KW) (HT.ext X6) (show(rows.set r (mm++(T.row r).drop k))[r]?.getD []=mm++(T.row r).drop k by rw[vY (by rw[Ft.o];exact EU)];rfl) λO1 Oa Ki Yk=>?_;have EW:=I (show(mm++(T.row r).drop k).length=zn by rw[SW,Lr,Oa.o,TN.o];omega);obtain⟨rg,rcap,Q1,hcr,RN,_,YW,JK,Eu,GU⟩:=Ki.m.row EU (n:=zn) (by rw[Yk.o,EW.o]) j0;obtain⟨rg',_,_,_,he',_,ho0,RP⟩:=RN.rats.at hlt;simp only[bq,H4,E5]at he';obtain⟨rfl,rfl⟩:=he';obtain⟨rg',he',_,P8,_⟩:=RN.block hlt;simp only[bq,H4,E5]at he';subst he';have c8:=Ki.c0;have q0:Z.cell? ⟨w5,0,none⟩=some (.int .i64 d1):=(bO HQ).1;have q1:Z.cell? ⟨w5,1,none⟩=some (.int .i64 d2):=(bO HQ).2.1;have KN:=ST k
  have Gj:=Rd k zn;have HVR:=I Q1;have hrgE:rg≠E.heap.size:=by have:=HVS.o r rg EU (by rw[HVR.o];rfl);omega
  have N9:=I hrgE;clear Q1 RN hrgE;rw[hI]at ho0 RP
  go_still_tail 8,j8
  have SV:=I (show MX ((Z.drew.setCell ⟨rg,k*2,none⟩ (.int .i64 d1)).setCell ⟨rg,k*2+1,none⟩ (.int .i64 d2)) w1 w2 G nb ca (GI (some ⟨B,0,none⟩) nb cb) (m:Int) vs (rows.set r ((mm++[(d1,d2)])++(T.row r).drop (k+1))) basis by
   have h1:=(Ki.ext (C7.drew Z)).Mj EU HVR.o (j:=k) (by rw[Yk.o,EW.o];exact hlt) d1 d2;rw[Yk.o,List.set_set,Ri Oa.o (by rw[TN.o];exact hlt)]at h1
   exact h1)
  have FU:=I (((HX.trans (X6.trans (C7.drew Z))).setCell (p:=⟨rg,k*2,none⟩) YW (.int .i64 d1)).setCell (p:=⟨rg,k*2+1,none⟩) YW (.int .i64 d2));have Nq:=I (show((Z.drew.setCell ⟨rg,k*2,none⟩ (.int .i64 d1)).setCell ⟨rg,k*2+1,none⟩ (.int .i64 d2)).heap[E.heap.size]?=some (QD #[.int .i64 pp,.int .i64 pq] 56 (0,0))by
   rw[GE _ _ _ _ N9.symm,GE _ _ _ _ N9.symm];exact(X6.trans (C7.drew Z)).blk HP)
  go_wp2_with fail;refine kf ?_;exact⟨k+1,mm++[(d1,d2)],I (k8 HK.o),by go_num,O1,SV,FU,Nq⟩
 have DV:zn=k:=k8 HK.o;subst DV;have Mf:=I (show JM (T.row r) (T.at r c)=some mm by unfold JM;rw[TN.o];exact KW)
 have HPG:=I (show bW T (r:Int) (c:Int)=(Gb T r c mm nb).map λrs=>⟨rs,basis.set r (c:Int),(m:Int)⟩by
  rw[HYG.o,pF Mf.o,I0.1,Ft.o,I0.2.1,H6.o])
 have R7:=I (show MX y9 w1 w2 G nb ca (GI (some ⟨B,0,none⟩) nb cb) (m:Int) vs (rows.set r mm) basis by
  have h1:=HT.o;rw[E1 (by rw[TN.o];exact i8 _),C3]at h1;exact h1)
 have p0:=aw ((X1.trans HX).blk HTB);clear LC;go_wp2
 go_loopg [87] nb (λgk ii wr=>∃(k:Nat) (vs2:List arQ) (M:List (l7)),b9 (gk+k=nb)/\ii=.int .i64 (k:Int)/\b9 (Gb T r c mm k=some M)/\b9 (MX wr w1 w2 G nb ca (GI (some ⟨B,0,none⟩) nb cb) (m:Int) vs2 M basis)/\b9 (C7 w1 wr))
 ·exact⟨0,vs,rows.set r mm,I j0,rfl,I (by simp only[Gb,I0.1]),R7,HX⟩
 obtain⟨k,vs2,M,PU,rfl,La,Fh,C0⟩:=hrel;clear p0;have hsr2:=C0.size;by_cases Ez:k<nb
 ·have⟨zb2,af',ya,yn,yc,VX,hzk,JE⟩:=(HH.ext (X1.trans C0)).at Ez;simp only[bq,H4,E5]at VX;obtain⟨rfl,rfl⟩:=VX;obtain rfl:yn=zn:=by rw[<-JE.hlen,<-GA.o,<-TN.o,Fq.o k Ez,Fq.o r EU]
  have Uj:=I (show i6 wr ya yn yc (T.row k)by rw[GA.o];exact JE);have⟨yb,Et,p,q,KY,D4,JC,EN⟩:=Uj.at hcu;subst KY;have EJ:b9 (T.at k c=(p,q)):=D4;have hyk1:=JE.r8;have hyk2:=JE.r9;clear D4 JE;have Lx:=I (show decide (k=r∨T.at k c=(0,1))=(decide (k=r)||((p == 0)&&(q == 1)))by rw[EJ.o,yy];simp);go_upto_region 16 with fail
  go_cut [102] (λacU wx=>acU=bl (decide (k=r∨T.at k c=(0,1)))/\b9 (C7 wr wx))
  case first =>
   have o7:=C7.drew wr;by_cases hkr:k=r
   ·have heq:((k:Int) == (r:Int))=true:=by simp;omega
    have HE9:=I (show decide (k=r∨T.at k c=(0,1))=true by rw[Lx.o,UV hkr];rfl);clear hkr;refine nE (S:=(λw'=>w'.cell? ⟨yb,Et+c*2,none⟩=some (.int .i64 p)/\w'.cell? ⟨yb,Et+c*2+1,none⟩=some (.int .i64 q)/\C7 wr w')) j8 ?_ (λo9=>?_)
    ·exact⟨o7.o6 JC,o7.o6 EN,o7⟩
    refine mq ⟨?_⟩;refine PV ⟨?_⟩;refine tk 7 ?_;refine tk 8 ?_;refine tk 9 ?_;refine tk 10 ?_;refine Pi j8 ?_ _;go_wp2;go_meet;exact⟨by rw[HE9.o],I o7⟩
   have heq:((k:Int) == (r:Int))=false:=m9;have HE9:=I (show decide (k=r∨T.at k c=(0,1))=((p == 0)&&(q == 1))by rw[Lx.o,Ok hkr];rfl);clear hkr;cases h1:(p == 0)
   all_goals
    cases h2:(q == 1)
   all_goals
    have HE8:=I HE9.o;rw[h1,h2]at HE8;refine nE (S:=(λw'=>w'.cell? ⟨yb,Et+c*2,none⟩=some (.int .i64 p)/\w'.cell? ⟨yb,Et+c*2+1,none⟩=some (.int .i64 q)/\C7 wr w')) j8 ?_ (λo9=>?_)
    ·exact⟨o7.o6 JC,o7.o6 EN,o7⟩
    refine mq ⟨?_⟩;refine PV ⟨?_⟩;refine tk 7 ?_;refine rd 8 λK hK=>?_;go_simp
    (go_at_call 131;refine IR (cO _ _) λw3 B5=>?_;have o7:=o7.trans B5)
    go_wp2_with fail;refine KO (an (o7.o6 JC) (an (o7.o6 EN) o7)) λo9=>?_;refine tk 9 ?_;refine tk 10 ?_;refine Pi j8 ?_ _;go_wp2;go_meet;exact⟨by rw[HE8.o];rfl,I o7⟩
  obtain⟨rfl,JZ⟩:=hcut;refine t8 (Fh.ext JZ) (C0.trans JZ) (Uj.ext JZ) λFu B7 aeC=>?_;replace JC:=JZ.o6 JC;replace EN:=JZ.o6 EN;clear hzk;cases hsk:decide (k=r∨T.at k c=(0,1))
  ·have Yq:=I (tz hsk);clear hsk;have HPM:=I (uC (t:=T) (by rw[I0.1,Ft.o];exact EU) La);obtain⟨mg,EM,hvm,K3,hom,_,_,_,hmc1,hmc2⟩:=Fu.m.row EU (n:=JL mm) (by rw[HPM.2]) (by rw[cX KW.o];omega);rw[HPM.2]at hom;have M6:=I hom.rats;have HML:=I (cX KW);have⟨mn,hmn⟩:=e9 (JL mm);rw[<-hmn]at K3 M6 HML;have hmn2:mn<=200000:=by have:=HML.o;omega
   have c8:=Fu.c0;have LV:-9223372036854775807<=p:=by have:=HVAL.o k c;rw[EJ.o]at this;exact this.1
   have MM:p<=9223372036854775807:=by have:=HVAL.o k c;rw[EJ.o]at this;exact this.2
   have Za:=I (λ(wz:J) (z1:l9) (z2 z3:Nat) (z4:l9) (z5 z6:Nat) (h1:i6 wz z1 z2 z3 (T.row k)) (h2:i6 wz z4 z5 z6 mm) (h3:z2<=1048576)=>px (k1:=-p) (k2:=q) h1 h2 h3);have⟨sv,Mo⟩:=e9 (Gu (T.row k) (-p,q) mm);have Ff:=I (show Gb T r c mm (k+1)=sv.map λx=>M.set k x by rw[Mo,zM La.o Yq.o,EJ.o];rfl);simp only[<-Mo]at Za;clear Mo hvm hom hmn;go_upto_region 17 with fail;have o7:=C7.drew wc;have D0:=o7;have o8:=I (λ(w':J) (h:C7 wc w')=>(an (h.o6 JC) (an (h.o6 EN) (an (h.o6 c8) (an (h.o6 K3) h)))))
   go_region_held3 (λw'=>w'.cell? ⟨yb,Et+c*2,none⟩=some (.int .i64 p)/\w'.cell? ⟨yb,Et+c*2+1,none⟩=some (.int .i64 q)/\w'.cell? ⟨w2,0,none⟩=some (GI (some ⟨G,0,none⟩) nb ca)/\w'.cell? ⟨G,r,none⟩=some (GI (some ⟨mg,0,none⟩) mn EM)/\C7 wc w')
    (with_reducible exact o8.o _ o7)
    (first
      | ((with_reducible refine(eX p q _ LV MM).mono ?_)
         rintro e w3 ⟨rfl,C6⟩;have o7:C7 wc w3:=o7.trans C6;have Pf:=o7.size)
      | ((with_reducible refine(Za.o _ _ _ _ _ _ _ (aeC.o.ext Mt) (M6.o.ext Mt) j0).mono ?_)
         rintro e w4 ⟨⟨v4,rfl,Hd⟩,DP⟩;have hs4':=o7.size;obtain⟨a4,n4,c4,rfl,Oj⟩:=Hd.var;have o7:C7 wc w4:=o7.trans DP;have SA:=o7.size))
   clear D0;refine Op (B7.trans o7) (Fu.ext o7) (Hd.mono hs4') o7 λGm No EI HK4=>?_;clear o7 Hd JC EN c8 K3;cases sv with
   | none =>
     have HN:=I (show bW T (r:Int) (c:Int)=none by rw[HPG.o,uD (k:=k+1) (by rw[Ff.o];rfl) Ez];rfl);have xf:=(X1.trans Gm);exact Mr
   | some nr =>
     have c8:=No.c0;have⟨G',Ij,MQ,hGc⟩:=No.m.own.cell Ez;simp only[bq,H4,E5]at Ij;subst Ij;have Q':w4.cell? ⟨G,k,none⟩=some (vs2[k]?.getD undef):=by
      exact Yh
     obtain⟨G',Ij,_,_,P8⟩:=No.m.outer j0;simp only[bq,H4,E5]at Ij;subst Ij;refine t8 (Fu.put HK4.o (k8 B7.size) EI.o Ez) (Gm.setCell (p:=⟨G,k,none⟩) MQ (GI a4 n4 c4)) (show Gb T r c mm (k+1)=some (M.set k nr)by rw[Ff.o];rfl) λKi FV HP5=>?_;clear hGc;go_wp2_with fail;refine Up ?_;exact⟨k+1,_,_,I (k8 PU.o),by go_num,HP5,Ki,FV⟩
  have Is:=I (uE La.o (uf hsk));clear hsk;go_wp2_with fail;refine Up ?_;exact⟨k+1,vs2,M,I (k8 PU.o),by go_num,Is,Fu,B7⟩
 have DV:nb=k:=k8 PU.o;subst DV;have HN:=I (show bW T (r:Int) (c:Int)=some ⟨M,basis.set r (c:Int),(m:Int)⟩by rw[HPG.o,La.o];rfl);have c81:=aI Fh.box;have⟨B',off',W5,Ts⟩:=Fh.b.ints.at EU;simp only[bq,H4,E5]at W5;obtain⟨rfl,rfl⟩:=W5;obtain⟨B',W5,hbB,hbf,_⟩:=Fh.b.block EU;simp only[bq,H4,E5]at W5;subst W5;rw[hI]at Ts;have FW:=I (Fh.putB r (c:Int));have IZ:=I (C0.setCell (p:=⟨B,r,none⟩) hbB (.int .i64 (c:Int)));go_upto_region 23 with fail;have⟨W9,ID⟩:=e9 (wr.setCell ⟨B,r,none⟩ (.int .i64 (c:Int)));rw[<-ID]at FW IZ⊢;clear ID c81 Ts hbf;have r0:=aw ((X1.trans IZ).blk EB);have r1:=aI ((X1.trans IZ).blk EB);have r2:=aJ ((X1.trans IZ).blk EB);have rf:=dZ ((X1.trans IZ).blk EB);have t0:=aw FW.box;have t1:=aI FW.box;have t2:=aJ FW.box;go_wp2;refine Fn (v:=.tuple #[.agg #[GI (some ⟨G,0,none⟩) nb ca,GI (some ⟨B,0,none⟩) nb cb,.int .i64 (m:Int)],bl true]) QZ rfl ⟨?_,((A8.trans X1).trans IZ).IM (b7 _) _ _ _⟩;refine⟨GI (some ⟨G,0,none⟩) nb ca,GI (some ⟨B,0,none⟩) nb cb,vs2,?_,?_⟩
 ·unfold ez;rw[HN.o,Nm];rfl
 exact Om
theorem sZ(h:OT w ra rn rc ba bn bc t)(Q:rn<=100000)(K:bn<=100000)(Z:∀i,i<rn->JL (t.row i)<=1048576)(E:∀i j,-9223372036854775807<=(t.at i j).1/\(t.at i j).1<=9223372036854775807)(row DU:Int):
 Calls prog 314 #[Oe ra rn rc ba bn bc t.A6,U row,U DU] w λe w'=>Tx w' w e (ez t row DU) (bW t row DU).isSome/\C7 w w':=by
 cases H:fe t row DU
 ·have e:=CW H;unfold ez;rw[e];exact ry h Q K Z row DU H
 exact rz h Q K E row DU H
end
end
section
variable{S n m:Nat}{w w':J}{a:l9}{t:Tb}{T0:Nat->Nat->Rat}{cost cs:l7}
structure WP(S:Nat)(w w':J):Prop where
 os:w'.os=w.os
 tape:w'.tape=w.tape
 output:w'.output=w.output
 size:w.heap.size<=w'.heap.size
 block:∀k,k<w.heap.size->k≠S->w'.heap[k]?=w.heap[k]?
theorem WP.refl(S:Nat)(w:J):WP S w w:=⟨rfl,rfl,rfl,i8 _,λ_ _ _=>rfl⟩
theorem WP.of(h:C7 w w'):WP S w w':=⟨h.os,h.tape,h.output,h.size,λk E _=>h.block k E⟩
theorem WP.trans{a b c:J}(h:WP S a b)(k:WP S b c):WP S a c :=
 ⟨k.os.trans h.os,k.tape.trans h.tape,k.output.trans h.output,fy h.size k.size,λi hi E=>(k.block i (Pw hi h.size) E).trans (h.block i hi E)⟩
theorem WP.set(S:Nat)(w:J)(k:Nat)(v:arQ):WP S w (w.setCell (O S k) v):=by
 have h:=(bz S w).setCell (p:=(O S k)) (i8 S) v;exact⟨h.os,h.tape,h.output,h.size,λi _ E=>GE _ _ _ _ E⟩
theorem MR{S:Nat}{w:J}{k:Nat}{v:arQ}:WP S w (w.setCell (O S k) v):=WP.set S w k v
theorem WP.ext{w0:J}(h:WP S w w')(hx:C7 w0 w)(hs:w0.heap.size<=S):C7 w0 w' :=
 ⟨h.os.trans hx.os,h.tape.trans hx.tape,h.output.trans hx.output,fy hx.size h.size,λk E=>(h.block k (Pw E hx.size) j0).trans (hx.block k E)⟩
structure ew(w:J)(S:Nat)(ra:l9)(rn rc:Nat)(ba:l9)(bn bc:Nat)(vs:List arQ)(t:Tb)(n:Nat)(f:Bool):Prop where
 box:w.heap[S]?=some (QD #[GI ra rn rc,GI ba bn bc,U t.A6,U n,bl f] 224 (0,0))
 tb:Fp w 0 (GI ra rn rc) (GI ba bn bc) vs t
theorem Fp.UP{base k:Nat}{E vb:arQ}{vs:List arQ}{c:Array arQ}{z:Nat×Nat}{v:arQ}(h:Fp w base E vb vs t)(hb:w.heap[S]?=some (QD c 224 z)):Fp (w.setCell (O S k) v) base E vb vs t :=
 ⟨bg h.a hb Fd,⟨h.rows.len,λi hi=>bg (h.rows.row i hi) hb Fd,h.rows.apart⟩,bg h.b hb Fd⟩
section
variable{w:J}{S:Nat}{ra:l9}{rn rc:Nat}{ba:l9}{bn bc:Nat}{vs:List arQ}{t:Tb}{n:Nat}{f:Bool}
theorem ew.ext{w':J}(h:ew w S ra rn rc ba bn bc vs t n f)(hx:C7 w w'):ew w' S ra rn rc ba bn bc vs t n f:=⟨(hx.block _ (In h.box)).trans h.box,h.tb.ext hx⟩
theorem ew.cells(h:ew w S ra rn rc ba bn bc vs t n f):w.cell? (O S 0)=some (GI ra rn rc)/\w.cell? (O S 1)=some (GI ba bn bc)/\w.cell? (O S 2)=some (U t.A6)/\w.cell? (O S 3)=some (U n)/\w.cell? (O S 4)=some (bl f)/\∀k,w.frozen? (O S k)=false:=by
 have hb:=h.box;refine⟨?_,?_,?_,?_,?_,λk=>mo w S k _ _ hb⟩<;>rw[aR w S _ _ _ _ hb]<;>rfl
theorem ew.fail(h:ew w S ra rn rc ba bn bc vs t n f):ew (w.setCell (O S 4) (bl true)) S ra rn rc ba bn bc vs t n true :=
 ⟨cE w S 4 _ _ (bl true) h.box,h.tb.UP h.box⟩
theorem ew.step(h:ew w S ra rn rc ba bn bc vs t n f){Ru:l9}{Rt E:Nat}{K:l9}{RZ H:Nat}{Q:List arQ}{t':Tb}(ho:Fp w 0 (GI Ru Rt E) (GI K RZ H) Q t'):
 ew ((((w.setCell (O S 0) (GI Ru Rt E)).setCell (O S 1) (GI K RZ H)).setCell (O S 2) (U t'.A6)).setCell (O S 3) (U ((n:Int)+1))) S Ru Rt E K RZ H Q t' (n+1) f:=by
 have b1:=cE w S 0 _ _ (GI Ru Rt E) h.box;have b2:=cE _ S 1 _ _ (GI K RZ H) b1;have Z:=cE _ S 2 _ _ (U t'.A6) b2;have b4:=cE _ S 3 _ _ (U ((n:Int)+1)) Z;refine⟨?_,(((ho.UP h.box).UP b1).UP b2).UP Z⟩;rw[b4];have:((n+1:Nat):Int)=(n:Int)+1:=j7;rw[this];rfl
end
theorem WV.mod{b:Nat}{v:arQ}{l:l7}(h:WV w b v l)(hm:WP S w w'){c:Array arQ}{z:Nat×Nat}(hb:w.heap[S]?=some (QD c 224 z)):WV w' b v l :=
 h.keep λk hk=>hm.block k (h.lt k hk).2 λe=>(aq h hb Fd) RA
def Rx(S:Nat)(w w':J)(o:Option (Tb×Nat)):Prop :=
 WP S w w'/\∃ra rn rc ba bn bc vs,match o with
  | some (t,n)=>ew w' S ra rn rc ba bn bc vs t n false
  | none=>∃t n,ew w' S ra rn rc ba bn bc vs t n true
def Hs(t:Tb)(n:Nat)(row DU:Int):Option (Tb×Nat):=if n=1000 then none else(bW t row DU).map λt'=>(t',n+1)
theorem EY.bounds(h:EY n m T0 t):(∀i,i<m->JL (t.row i)=n+m+1)/\∀i j,-9223372036854775807<=(t.at i j).1/\(t.at i j).1<=9223372036854775807:=by
 refine⟨λi hi=>(h.row i hi).1,λi j=>?_⟩;by_cases hi:i<m
 ·by_cases E:j<n+m+1
  ·have:=aU ((h.row i hi).2 j E);unfold Tb.at;omega
  unfold Tb.at;rw[q8 (by rw[(h.row i hi).1];omega)];simp
 unfold Tb.at Tb.row;rw[q8 (l:=t.rows) Sk];simp
section
variable{w:J}{S:Nat}{ra:l9}{rn rc:Nat}{ba:l9}{bn bc:Nat}{vs:List arQ}{t:Tb}{n:Nat}
def Pq(h:σ:=by
 go_in
 go_wp2;refine Fn (Wt rfl _ _ _) rfl ⟨rfl,MR,?_⟩;rw[HP.o];exact⟨_,_,_,_,_,_,_,_,_,H.fail⟩
 ):σ:=h
theorem zy(h:ew w S ra rn rc ba bn bc vs t n false){N m:Nat}{T0:Nat->Nat->Rat}(hT:EY N m T0 t)(hN:N<=1000)(hm:m<=1000)(hn:n<=1000)(row DU:Int):
 Calls prog 273 #[aP (some (O S 0)),U row,U DU] w λe w'=>e=ar (.tuple #[])/\Rx S w w' (Hs t n row DU):=by
 have hlt:=In h.box;have⟨c0,c1,c2,c3,c4,cf⟩:=h.cells;have H:=I h;by_cases PB:n=1000
 ·subst PB;have HP:=I (show Hs t 1000 row DU=none by unfold Hs;rw[f9 rfl]);clear h;exact Pq
 have SC:((n:Int) == 1000)=false:=m9;have FT:n<1000:=j0;have HB:=I hT.bounds;have HTB:=I h.tb.I3;have IT:rn=m:=by rw[<-h.tb.I3.rows.hlen,hT.len]
 have MP:bn=m:=by rw[<-h.tb.I3.basis.hlen,hT.Ji]
 have M5:=I (sZ h.tb.I3 j0 j0 (λi hi=>by rw[hT.bounds.1 i j0];omega) hT.bounds.2 row DU);have HP:=I (show Hs t n row DU=(bW t row DU).map λt'=>(t',n+1)by unfold Hs;rw[f7 PB]);clear h hT PB IT MP;unfold Tx ez at M5;cases hp:bW t row DU with
 | none =>
   rw[hp]at M5 HP;go_in
   go_wp2_with fail;refine M5.mono ?_;simp only[XK,PI];rintro e E ⟨⟨va,vb,K,rfl,ho⟩,hx⟩;obtain⟨a7,Z,c7,rfl,My⟩:=ho.a.var;obtain⟨a8,Q,c8,rfl,M7⟩:=ho.b.var;have⟨E1,QG⟩:=e9 (E.alloc (QD #[GI a7 Z c7,GI a8 Q c8,U t.A6] 151));refine t8 (show C7 w E1 by rw[QG];exact hx.trans WU) (show Fp E1 0 (GI a7 Z c7) (GI a8 Q c8) K t by rw[QG];exact(ho.ext WU).mono (gi _)) (show E1.heap[E.heap.size]?=some (QD #[GI a7 Z c7,GI a8 Q c8,U t.A6] 151 (0,0))by rw[QG];exact IO rfl) λX1 HO EC=>?_;have HS:=I (H.ext X1);go_upto_region 3 with fail;rw[<-QG];clear QG ho hx c0 c1 c2 c3 c4 cf;have⟨c0,c1,c2,c3,c4,cf⟩:=HS.cells;have⟨b0,b1,b2⟩:=gl EC.o;have Ez:=In EC.o;have hne:E.heap.size≠S:=λe=>lJ EC.o HS.box Fd e
   go_wp2;refine Fn (Wt rfl _ _ _) rfl ⟨rfl,(WP.of X1).trans MR,?_⟩;rw[HP.o];exact⟨_,_,_,_,_,_,_,_,_,HS.fail⟩
 | some t' =>
   rw[hp]at M5 HP;go_in
   go_wp2_with fail;refine M5.mono ?_;simp only[Nm,bk];rintro e E ⟨⟨va,vb,K,rfl,ho⟩,hx⟩;obtain⟨a7,Z,c7,rfl,My⟩:=ho.a.var;obtain⟨a8,Q,c8,rfl,M7⟩:=ho.b.var;have⟨E1,QG⟩:=e9 (E.alloc (QD #[GI a7 Z c7,GI a8 Q c8,U t'.A6] 151));refine t8 (show C7 w E1 by rw[QG];exact hx.trans WU) (show Fp E1 0 (GI a7 Z c7) (GI a8 Q c8) K t' by rw[QG];exact(ho.ext WU).mono (gi _)) (show E1.heap[E.heap.size]?=some (QD #[GI a7 Z c7,GI a8 Q c8,U t'.A6] 151 (0,0))by rw[QG];exact IO rfl) λX1 HO EC=>?_;have HS:=I (H.ext X1);go_upto_region 3 with fail;rw[<-QG];clear QG ho hx c0 c1 c2 c3 c4 cf;have⟨c0,c1,c2,c3,c4,cf⟩:=HS.cells;have⟨b0,b1,b2⟩:=gl EC.o;have Ez:=In EC.o;have hne:E.heap.size≠S:=λe=>lJ EC.o HS.box Fd e
   go_wp2_with fail;refine VP (Wt rfl _ _ _) rfl ⟨rfl,(WP.of X1).trans (((MR.trans MR).trans MR).trans MR),?_⟩;rw[HP.o];exact⟨_,_,_,_,_,_,_,HS.step HO.o⟩
end
theorem rJ(f:Nat)(h:dC t cost=none):bD cost f t=none:=by unfold bD;rw[h]
theorem pC(f:Nat)(h:dC t cost=some cs)(E:bQ cs t.A6<0):bD cost f t=some ⟨t,f,cs,-1⟩:=by unfold bD;rw[h];simp only[E,Pl]
theorem pD(f:Nat)(h:dC t cost=some cs)(H:¬bQ cs t.A6<0)(E:dL t (bQ cs t.A6)<0):bD cost f t=some ⟨t,f,cs,bQ cs t.A6⟩:=by
 unfold bD;rw[h];simp only[H,E,Pl,XP]
theorem pE(hn:n<=1000)(h:dC t cost=some cs)(H:¬bQ cs t.A6<0)(E:¬dL t (bQ cs t.A6)<0):
 bD cost (1000-n) t=(Hs t n (dL t (bQ cs t.A6)) (bQ cs t.A6)).bind λs=>bD cost (1000-s.2) s.1:=by
 unfold Hs;by_cases K:n=1000
 ·subst K;unfold bD;rw[h];simp only[H,E,XP,Pl];rfl
 rw[f7 K];obtain⟨f,Q⟩:∃f,1000-n=f+1:=⟨999-n,by omega⟩;rw[Q];have e:1000-(n+1)=f:=j0
 conv=>lhs;unfold bD
 rw[h];simp only[H,E,XP];cases bW t (dL t (bQ cs t.A6)) (bQ cs t.A6)with
 | none=>rfl
 | some t'=>simp only[yl,mr,e]
def JV(S:Nat)(w:J)(e:Ending)(w':J)(o:Option Ph):Prop :=
 WP S w w'/\∃ra rn rc ba bn bc vs,match o with
  | some p=>∃v,e=ar (.tuple #[v,U p.DU])/\WV w' w v p.costs/\ew w' S ra rn rc ba bn bc vs p.t (1000-p.left) false
  | none=>∃v DU t n,e=ar (.tuple #[v,U DU])/\ew w' S ra rn rc ba bn bc vs t n true
structure Yt(w wr:J)(S:Nat)(N m:Nat)(T0:Nat->Nat->Rat)(cost:l7)(o:Option Ph)(gk:Nat)(nn:Nat)(f:Bool)(tt:Tb)(ra:l9)(rn rc:Nat)(ba:l9)(bn bc:Nat)(vs:List arQ):Prop where
 meas:gk=if f=true then 0 else 2*(1000-nn)+1
 mod:WP S w wr
 st:ew wr S ra rn rc ba bn bc vs tt nn f
 go:f=false->EY N m T0 tt/\nn<=1000/\bD cost (1000-nn) tt=o
 no:f=true->o=none
section
variable{w:J}{S:Nat}{ra:l9}{rn rc:Nat}{ba:l9}{bn bc:Nat}{vs:List arQ}{t:Tb}{n:Nat}
def Qx(h:σ:=by
 unfold Hs at Kt;split at Kt
 ·cases Kt
 ·rw[Sc]at Kt;obtain⟨t6,h6,h7⟩:=Kt;simp only[wb]at h7;obtain⟨rfl,rfl⟩:=h7;exact⟨rfl,by omega,h6⟩
 ):σ:=h
def Lk(h:σ:=by
 go_wp2;go_ret2;refine⟨Lc,?_⟩;rw[HO.o];exact⟨_,_,_,_,_,_,_,_,rfl,EI,by rw[show 1000-(1000-nn)=nn by omega];exact Oy⟩
 ):σ:=h
def ID(h:σ:=by
 go_wp2;go_ret2;refine⟨J0,?_⟩;rw[HO.o];exact⟨_,_,_,_,_,_,_,_,rfl,B9,by rw[show 1000-(1000-nn)=nn by omega];exact K9⟩
 ):σ:=h
def Mj(h:σ:=by
 go_wp2;go_ret2;refine⟨HM.trans MR,?_⟩;rw[HO.o];exact⟨_,_,_,_,_,_,_,_,_,_,_,rfl,HS.fail⟩
 ):σ:=h
theorem MH(h:ew w S ra rn rc ba bn bc vs t n false){N m:Nat}{T0:Nat->Nat->Rat}(hT:EY N m T0 t)(hN:N<=1000)(hm:m<=1000)(hn:n<=1000){ka:l9}{kn kc b0:Nat}{cost:l7}(hc:WV w b0 (GI ka kn kc) cost):
 Calls prog 270 #[aP (some ⟨S,0,none⟩),GI ka kn kc] w λe w'=>JV S w e w' (bD cost (1000-n) t):=by
 have⟨o,ho⟩:=e9 (bD cost (1000-n) t);rw[<-ho];refine t8 (show Yt w w S N m T0 cost o (2*(1000-n)+1) n false t ra rn rc ba bn bc vs from⟨by simp,WP.refl _ _,h,λ_=>⟨hT,hn,ho.symm⟩,λe=>by cases e⟩) hc h.box λH0 HC EC=>?_;have hlt:=In h.box;clear h hT ho hc;go_in
 go_wp2
 go_loopg [8] (2*(1000-n)+1) (λgk s8 wr=>∃(nn:Nat) (f:Bool) (K:Tb) (ra:l9) (rn rc:Nat) (ba:l9) (bn bc:Nat) (vs:List arQ),b9 (Yt w wr S N m T0 cost o gk nn f K ra rn rc ba bn bc vs))
 ·exact⟨n,false,t,_,_,_,_,_,_,_,H0⟩
 obtain⟨nn,f,K,ra,rn,rc,ba,bn,bc,vs,E⟩:=hrel;have⟨c0,c1,c2,c3,c4,cf⟩:=E.st.cells;have hl1:=In E.st.box;have IK:=E.mod.size;cases f
 ·have⟨hT,FT,hph⟩:=E.go rfl;have HT:=I hT;have Z:=I hph;have IC:=hT.A6;have Zm:=I (Cp E.st.tb.I3 (by rw[<-E.st.tb.I3.rows.hlen,hT.len];omega) ((HC.mod E.mod EC).rats));rw[IC]at c2 Zm;have KX:=I IC;clear hT hph IC;cases H:dC K cost with
  | none =>
    have HO:=I (show o=none by rw[<-Z.o];exact rJ _ H);rw[H]at Zm;go_wp2_with fail;refine Zm.mono ?_;simp only[XK,PI];rintro e w2 ⟨⟨v2,rfl,Gs⟩,hx⟩;have HS:=I (E.st.ext hx);have HM:=I (E.mod.trans (WP.of hx));clear Gs hx c0 c1 c2 c3 c4 cf H;have⟨c0,c1,c2,c3,c4,cf⟩:=HS.cells;exact Mj
  | some cs =>
    rw[H]at Zm;have Qh:=I H;go_wp2_with fail;refine Zm.mono ?_;simp only[Nm,bk];rintro e w2 ⟨⟨v2,rfl,Gs⟩,hx⟩;obtain⟨a2,n2,p2,rfl,Hb⟩:=Gs.var;refine t8 (E.st.ext hx) (E.mod.trans (WP.of hx)) (show WV w2 w (GI a2 n2 p2) cs from WV.mono Gs IK) λHS HM Ec=>?_;clear Gs hx c0 c1 c2 c3 c4 cf H;have⟨c0,c1,c2,c3,c4,cf⟩:=HS.cells;rw[KX.o]at c2;have⟨DU,Lp⟩:=e9 (bQ cs (N:Int));have HCL:=I Lp;clear Lp;go_upto_region 5 with fail;have o7:=C7.drew w2;have D0:=o7;have o8:=I (λ(w':J) (h:C7 w2 w')=>(an (h.o6 c0) (an (h.o6 c1) (an (h.o6 c2) h))))
    go_region_held3 (λw'=>w'.cell? ⟨S,0,none⟩=some (GI ra rn rc)/\w'.cell? ⟨S,1,none⟩=some (GI ba bn bc)/\w'.cell? ⟨S,2,none⟩=some (.int .i64 (N:Int))/\C7 w2 w')
     (with_reducible exact o8.o _ o7)
     (first
       | ((with_reducible refine(qd (ra:=ra) (rn:=rn) (rc:=rc) (ba:=ba) (bn:=bn) (bc:=bc) (x:=(N:Int)) (Ec.o.rats.ext Mt) N j0).mono ?_)
          rw[<-HCL.o];rintro e w3 ⟨rfl,C6⟩;have o7:C7 w2 w3:=o7.trans C6;have Pf:=o7.size))
    clear D0;refine t8 (HS.ext o7) (HM.trans (WP.of o7)) (Ec.ext o7) λK9 J0 B9=>?_;clear o7 c0 c1 c2 c3 c4 cf;have Ps:=I (show bQ cs K.A6=DU by rw[KX.o,HCL.o]);by_cases D1:DU<0
    ·have HO:=I (show o=some ⟨K,1000-nn,cs,-1⟩by rw[<-Z.o];exact pC _ Qh.o (by rw[Ps.o];exact D1));exact ID
    have⟨c0,c1,c2,c3,c4,cf⟩:=K9.cells;rw[KX.o]at c2;have O9:=I D1;have Mz:=I (wC K9.tb.I3 (by rw[<-K9.tb.I3.rows.hlen,HT.len];omega) DU);rw[KX.o]at Mz;have⟨row,z8⟩:=e9 (dL K DU);have GA:=I (show dL K (bQ cs K.A6)=row by rw[Ps.o,z8]);rw[<-z8]at Mz;clear z8;go_wp2_with fail;refine IR Mz λw4 hx=>?_;refine t8 (K9.ext hx) (J0.trans (WP.of hx)) (B9.ext hx) λOy Lc EI=>?_;clear hx c0 c1 c2 c3 c4 cf;by_cases Eb:row<0
    ·have HO:=I (show o=some ⟨K,1000-nn,cs,DU⟩by
      rw[<-Z.o,pD _ Qh.o (by rw[Ps.o];have:=O9.o;omega) (by rw[GA.o];exact Eb),Ps.o])
     exact Lk
    have LI:=I (show o=(Hs K nn row DU).bind λs=>bD cost (1000-s.2) s.1 by
     rw[<-Z.o,pE FT Qh.o (by rw[Ps.o];have:=O9.o;omega) (by rw[GA.o];omega),GA.o,Ps.o])
    have M5:=I (zy Oy.o HT.o hN hm FT row DU);have HK:b9 (gk=2*(1000-nn)+1):=E.meas;go_wp2_with fail;refine M5.mono ?_;rintro e w5 ⟨rfl,Mr,ra5,rn5,rc5,ba5,bn5,bc5,Zu,EA⟩;cases Kt:Hs K nn row DU with
    | none =>
      rw[Kt]at EA;obtain⟨t5,n5,KJ⟩:=EA;have HO:=I (show o=none by rw[LI.o,Kt];rfl);have HH5:b9 (Yt w w5 S N m T0 cost o 0 n5 true t5 ra5 rn5 rc5 ba5 bn5 bc5 Zu):=I ⟨rfl,Lc.trans Mr,KJ,λe=>(by cases e),λ_=>HO.o⟩;clear KJ Kt Mr;go_wp2
      go_roundg 0
      case measure=>exact cS
      exact⟨n5,true,t5,_,_,_,_,_,_,_,HH5⟩
    | some st =>
      obtain⟨t5,n5⟩:=st;rw[Kt]at EA;have Ku:n5=nn+1/\nn<1000/\bW K row DU=some t5:=by
       exact Qx
      obtain⟨rfl,hlt5,hpt⟩:=Ku;have HO:=I (show bD cost (1000-(nn+1)) t5=o by rw[LI.o,Kt];rfl);have HH5:b9 (Yt w w5 S N m T0 cost o (2*(1000-(nn+1))+1) (nn+1) false t5 ra5 rn5 rc5 ba5 bn5 bc5 Zu):=I ⟨rfl,Lc.trans Mr,EA,λ_=>⟨gS HT.o hpt,by omega,HO⟩,λe=>(by cases e)⟩;clear EA Kt Mr hpt;go_wp2
      go_roundg (2*(1000-(nn+1))+1)
      case measure=>exact cS
      exact⟨nn+1,false,t5,_,_,_,_,_,_,_,HH5⟩
 have HO:=I (E.no rfl);go_wp2;go_ret2;refine⟨E.mod,?_⟩;rw[HO.o];exact⟨_,_,_,_,_,_,_,_,_,_,_,rfl,E.st⟩
end
theorem uk{cap:Nat}{front:l7}(h:i6 w a n cap front)(rest:Int)(m:Nat)(hn:n<=100000)(hm:m<=100000):
 Calls prog 271 #[GI a n cap,U rest,U m] w λe w'=>(∃v,e=ar v/\WV w' w v (front++List.replicate m (rest,1)))/\C7 w w':=by
 have HL:=I h.hlen;have⟨Eu,GU⟩:=h.aq9;have HI:=I (h.ext (C7.alloc w (QD #[] 56)));have HO:=I (WV.made w w (i8 _));clear h;go_in
 go_wp2_with (first
  | (at_builtin;refine cG rfl _ _ rfl w (EQ w 0 0) [] rfl HO.o a n cap front rfl HI.o m9 j7 ?_;intro v5 w5 ho hg r7;have X5:=I (aj (C7.alloc w (QD #[] 56)) hg (λj hj=>wZ (tu (show some w.heap.size=some j from hj))));obtain⟨a5,n5,p5,rfl,It⟩:=ho.var;have DT:=I ho;clear ho hg r7))
 go_loopg [7,12] m (λgk oo ii wr=>∃(k:Nat) (Z:l9) (K H:Nat),b9 (gk+k=m)/\ii=U k/\oo=GI Z K H/\b9 (WV wr w (GI Z K H) (front++List.replicate k (rest,1)))/\b9 (C7 w wr))
 ·exact⟨0,_,_,_,I j0,rfl,rfl,I (by have:=DT.o;simpa using this),X5⟩
 obtain⟨k,Z,K,H,HK,rfl,rfl,E,HX⟩:=hrel;by_cases hlt:k<m
 ·have EW:=I (show(front++List.replicate k (rest,(1:Int))).length=n+k by simp[HL.o]);go_wp2_with fail;refine i7 (cO rest _) λw3 hx=>?_;have X3:=I (HX.trans hx);have B9:=I (E.ext hx);have J8:=X3.size
  go_wp2_with (first
   | (at_builtin;refine Ot rest 1 B9 X3 N5 λa5 n5 p5 w5 It X5 DT=>?_))
  refine er ?_;exact⟨k+1,a5,n5,p5,I (k8 HK.o),by go_num,rfl,I ER,X5⟩
 have Iq:m=k:=k8 HK.o;subst Iq;go_wp2;go_ret;exact⟨⟨_,rfl,E⟩,HX⟩
theorem kD(t:Tb):∀k,JL (GM t k)=t.A6.toNat+JL t.rows
 | 0=>by simp[GM]
 | k+1=>by simp only[GM,k7];exact kD t k
def ka(h:σ:=by
 have J8:=X3.size;clear hx
 go_wp2_with (first
  | (at_builtin;refine Ot 0 1 B9 X3 N5 λa5 n5 p5 w5 It X5 DT=>?_))
 refine qq0 ?_;exact⟨k+1,a5,n5,p5,I (k8 HK.o),by go_num,rfl,I X9,X5⟩
 ):σ:=h
def RJ(h:σ:=by
 go_wp2_with fail;refine vE ?_;exact⟨j+1,I (k8 HJ.o),by go_num,DT,FV⟩
 ):σ:=h
def YJ(h:σ:=by
 exact⟨0,I j0,rfl,Ec,HX⟩
 ):σ:=h
theorem wF{ra:l9}{rn rc:Nat}{ba:l9}{bn bc:Nat}(h:OT w ra rn rc ba bn bc t)(IT:rn<=100000)(DL:Ib t=true):
 Calls prog 274 #[Oe ra rn rc ba bn bc t.A6] w λe w'=>(∃v,e=ar v/\WV w' w v (Ga t))/\C7 w w':=by
 have B8:=C7.alloc w (de ra rn rc ba bn bc t.A6);have A8:=I B8;have H:=I (h.ext B8);have HF:=I (kz H.o j0);rw[DL]at HF;have⟨m,P6,hm,Nj,Tk,aaE⟩:=iN h DL;subst Nj;have⟨Eh,FZ⟩:=h.rows.aq9;refine af h.rows.hlen (show Ga t=GM t bn by unfold Ga;rw[f9 DL,h.rows.hlen]) (show GM t 0=List.replicate (m+bn) (0,1)by simp only[GM];rw[P6,h.rows.hlen];rfl) (λk=>show(GM t k).length=m+bn by rw[kD,P6,h.rows.hlen];simp) Tk aaE P6 λFt HSO Qd F5 Fq I2 H6=>?_;rw[P6]at HF B8 A8 H;rw[P6];have HO:=I (λ(W:J)=>WV.made W W (i8 _));clear h B8 Tk aaE DL P6;go_in
 go_wp2_with fail;refine i7 HF λw1 K=>?_;have H1:=I (H.ext K);have c0:w1.cell? (O w 0)=some (GI ra bn rc):=K.o6 j7;have c2:w1.cell? (O w 2)=some (U m):=K.o6 j7;have IK:w.heap.size+1<=w1.heap.size:=by have:=K.size;simpa using this
 have hs1':w.heap.size<w1.heap.size:=IK;have HO1:=I (HO w1);go_wp2
 go_loopg [3,16] (m+bn) (λgk oo ii wr=>∃(k:Nat) (a1:l9) (E Z:Nat),b9 (gk+k=m+bn)/\ii=U k/\oo=GI a1 E Z/\b9 (WV wr w1 (GI a1 E Z) (List.replicate k (0,1)))/\b9 (C7 w1 wr))
 ·exact O0
 rename Nat=>g1;rename J=>y9;obtain⟨k,a1,E,Z,HK,rfl,rfl,HO1,HX⟩:=hrel;clear c0 c2;by_cases hlt:k<m+bn
 ·have EW:=I (show(List.replicate k ((0:Int),(1:Int))).length=k by simp);have aao:(k:Int)<(m:Int)+(bn:Int):=by omega
  go_wp2_with fail;refine IR (cO 0 _) λw3 hx=>?_;have X3:=I (HX.trans hx);have B9:=I (HO1.ext hx);have qq0:=@kf;exact ka
 have Iq:k=m+bn:=k8 HK.o;have aao:¬(k:Int)<(m:Int)+(bn:Int):=j0;have HKM:=I Iq;have Ec:=I (show WV y9 w1 (GI a1 E Z) (GM t 0)by rw[Qd.o,<-Iq];exact HO1);have c0:y9.cell? (O w 0)=some (GI ra bn rc):=(K.trans HX).o6 j7;clear Iq;go_wp2
 go_loopg [26] bn (λgk ii wr=>∃(k:Nat),b9 (gk+k=bn)/\ii=U k/\b9 (WV wr w1 (GI a1 E Z) (GM t k))/\b9 (C7 w1 wr))
 ·exact YJ
 obtain⟨j,HJ,rfl,EI,Gm⟩:=hrel;clear c0;by_cases F0:j<bn
 ·have⟨zb,ED,ya,yn,yc,JA,F8,z8⟩:=(H1.ext Gm).rows.at F0;subst JA;have⟨u,hu⟩:=e9 (m+bn);have Lj:yn=u+1:=by rw[<-z8.hlen,hu];exact Fq.o j F0
  have Y4:=I Lj;have⟨EN,KG⟩:=z8.aq9;have hub:u<=200000:=j0;have⟨yb,Et,p,q,KY,D4,Qq,Qp⟩:=z8.at (show u<yn by omega);subst KY;have EJ:b9 (t.at j u=(p,q)):=D4;have⟨b,hb,PJ⟩:=I2.o j F0;have HB:=I hb;have⟨eb,DI,IU,Fg⟩:=(H1.ext Gm).basis.at F0;subst IU;rw[hb]at Fg;have FT:E=u:=by have:=EI.rats.hlen;rw[F5.o]at this;omega
  subst FT;have⟨G,hG,MQ,P8,Tv⟩:=EI.block (k:=b) j0;subst hG;have⟨G',SK,g1v,g2v,Ij,Jd,Ms,K2⟩:=EI.rats.at (show b<E by omega);obtain⟨rfl,rfl⟩:=aM Ij;clear Ij;rw[hI]at Ms K2;have c1:wr.cell? (O w 1)=some (GI (some (O eb DI)) bn bc):=(K.trans Gm).o6 j7;have YL:IntKind.i64.wrap ((yn:Int)-1)=(E:Int):=by have:=Y4.o;rw[mn];omega
  have Kr:(E:Int)<(yn:Int):=k8 Y4.o;have KZ:=ST E;have G5:=ST b;have E6:=Rd b E;have hj0:=ST j;have hj1:=Rd j bn;have HU:=I hu;clear D4 z8 Lj hb Jd hu;go_upto_region 11 with fail
  go_still_tail 13,j8
  have DT:=I (show WV ((wr.drew.setCell (O G (b*2)) (U p)).setCell (O G (b*2+1)) (U q)) w1 (EQ G E Z) (GM t (j+1))by
   have h1:=(EI.ext (C7.drew wr)).set (k:=b) (by rw[F5.o,<-HU.o];omega) p q;have h2:GM t (j+1)=(GM t j).set b (p,q):=by
    simp only[GM];rw[HB.o,gg,H6.o,gg,Ft.o,<-HU.o,EJ.o]
   rw[h2];exact h1)
  have FV:=I (((Gm.trans (C7.drew wr)).setCell (p:=(O G (b*2))) MQ (U p)).setCell (p:=(O G (b*2+1))) MQ (U q));clear YL;exact RJ
 have Ln:bn=j:=k8 HJ.o;subst Ln;go_wp2;go_ret;exact⟨⟨_,rfl,by rw[HSO.o];exact EI.mono j0⟩,(A8.trans K).trans Gm.o⟩
theorem lZ{V:o3}{k:Nat}{v:Int}(hn:JL V=n)(h:k+1<n)(E:V[k+1]?.getD 0=v):(aW V).take k++[(-v,1)]=(aW V).take (k+1):=by
 have K:k+1<JL V:=j0;have H:(aW V)[k]?=some (-v,1):=by
  unfold aW;rw[Id K,Nm]at E;rw[vM,XJ,QA 1 k,Id K,E];rfl
 have Q:k<JL (aW V):=(O2.1 H).1;rw[xl Q,(O2.1 H).2]
def RI(h:σ:=by
 exact⟨k+1,a5,n5,p5,I (k8 HK.o),by go_num,rfl,I cd,X5⟩
 ):σ:=h
theorem mY{p:Int}{cap:Nat}{V:o3}(h:d9 w a n cap V)(FT:1<=n)(hn:n<=1000)(hV:∀x∈V,-500<=x/\x<=500):
 Calls prog 198 #[FS p a n cap,U 1,U ((n:Int)-1)] w λe w'=>(∃v,e=ar v/\WV w' w v (aW V))/\C7 w w':=by
 have HL:=I h.hlen;have⟨Eu,GU⟩:=h.aq9;have⟨W,Z⟩:=e9 (w.alloc (QD #[U p,GI a n cap] 31));have Mk:C7 w W:=by rw[Z];exact WU
 refine Op Mk (h.ext Mk) hV (show W.cell? (O w 1)=some (GI a n cap)by rw[Z];simp) λHa HI IG EC=>?_;have hsW:=Mk.size;have HO1:=I (WV.made W W (i8 _));have H:=I (show(aW V).length=n-1 by unfold aW;simp[h.hlen]);clear h hV Mk;go_in
 go_upto_region 1 with fail;rw[<-Z];clear Z;go_wp2
 go_loopg [7,8] (n-1) (λgk oo ii wr=>∃(k:Nat) (a1:l9) (n1 p1:Nat),b9 (gk+k=n-1)/\ii=U ((k+1:Nat):Int)/\oo=GI a1 n1 p1/\b9 (WV wr W (GI a1 n1 p1) ((aW V).take k))/\b9 (C7 W wr))
 ·exact O0
 obtain⟨k,a1,n1,p1,HK,rfl,rfl,aa,E⟩:=hrel;have hsz:=E.size;have bx:=E.o6 EC.o;by_cases hlt:k+1<n
 ·have hle:((k+1:Nat):Int)<=(n:Int)-1:=by omega
  have⟨eb,DI,IU,Fg⟩:=(HI.ext E).at hlt;subst IU;have⟨v,K⟩:=e9 (V[k+1]?.getD 0);have FG:-500<=v/\v<=500:=by
   rw[K,Id JO,Nm];exact IG.o _ (eN _)
  rw[<-K]at Fg;have F9:=I (lZ HL.o hlt K.symm);have Pd:=dk (-v);have KN:(0:Int)<=((k+1:Nat):Int):=j0;have Gj:((k+1:Nat):Int)<(n:Int):=j0;have o7:=wq (((k+1:Nat):Int)+1) ((k+1+1:Nat):Int);have Ow:=I (show((aW V).take k).length=k by rw[k6,H.o];omega);clear K;go_wp2_with fail;refine i7 (cO (-v) _) λw3 hx=>?_;have X3:=I (E.trans hx);have B9:=I (aa.ext hx);have J8:=X3.size
  go_wp2_with (first
   | (at_builtin;refine Ot (-v) 1 B9 X3 UR λa5 n5 p5 w5 It X5 DT=>?_))
  refine er ?_;exact RI
 have hle:¬((k+1:Nat):Int)<=(n:Int)-1:=j0;have HT:b9 ((aW V).take k=aW V):=bR (by rw[H.o];omega);go_wp2;go_ret;exact⟨⟨_,rfl,by rw[<-HT.o];exact aa.mono hsW⟩,Ha.trans E.o⟩
theorem mp{cap:Nat}{Y:l7}(h:i6 w a n cap Y)(hn:n<=100000)(hY:∀k:Nat,-9223372036854775807<=(Y[k]?.getD (0,0)).1/\(Y[k]?.getD (0,0)).1<=9223372036854775807):
 Calls prog 130 #[GI a n cap] w λe w'=>(∃v,e=ar v/\WV w' w v (Y.map C5))/\C7 w w':=by
 have HL:=I h.hlen;have⟨Eu,GU⟩:=h.aq9;refine t8 h hY (WV.made w w (i8 _)) λHI HB HO1=>?_;clear h hY;go_in
 go_wp2
 go_loopg [3,9] n (λgk oo ii wr=>∃(k:Nat) (a1:l9) (n1 Z:Nat),b9 (gk+k=n)/\ii=U k/\oo=GI a1 n1 Z/\b9 (WV wr w (GI a1 n1 Z) ((Y.take k).map C5))/\b9 (C7 w wr))
 ·exact O0
 obtain⟨k,a1,n1,Z,HK,rfl,rfl,aa,H⟩:=hrel;have hsz:=H.size;by_cases E:k<n
 ·have⟨eb,DI,x,y,IU,K,Fg,Kc⟩:=(HI.ext H).at E;subst IU;have hb:=HB.o k;rw[K]at hb;have F9:=I (show(Y.take k).map C5++[(-x,y)]=(Y.take (k+1)).map C5 by
   have h1:k<JL Y:=by rw[HL.o];exact E
   rw[xl h1,sr,TQ];rw[Id h1,Nm]at K;rw[K];rfl)
  have KN:=ST k;have Gj:=Rd k n;have Ow:=I (show((Y.take k).map C5).length=k by rw[dc,k6,HL.o];omega);have HM:=I (λw'=>eX x y w' hb.1 hb.2);clear K hb;go_wp2_with fail;refine i7 (HM _) λw3 hx=>?_;have X3:=I ((H.trans WU).trans hx);have B9:=I ((aa.ext WU).ext hx);have J8:=X3.size
  go_wp2_with (first
   | (at_builtin;refine Ot (-x) y B9 X3 UR λa5 n5 p5 w5 It X5 DT=>?_))
  refine er ?_;exact RI
 have HT:b9 (Y.take k=Y):=bR Ym;rw[HT.o]at aa;go_wp2;go_ret;exact⟨⟨_,rfl,aa⟩,H⟩
end
section
variable{n k:Nat}{A:l8}
def Yc(w:J)(e:Ending)(A:l8)(B:o3)(C:l7)(ok:Bool):Prop :=
 ∃a na ca b nb cb c nc cc,e=ar (.tuple #[Ig a na ca b nb cb c nc cc,bl ok])/\(ok=true->Kh w a na ca b nb cb c nc cc A B C)
theorem zX(hn:n<=32):∀k:Nat,(EK 1 (n-1))[k]?.getD 0<=9223372036854775807:=by
 intro k;by_cases h:k<JL (EK 1 (n-1))
 ·rw[Id h,Nm];simp only[EK,dc,Rc]at h;simp only[EK,lx,N4];omega
 rw[q8 j0];decide
def Qv(h:σ:=by
 rw[hg,hW]at HC;clear hg;go_in
 go_wp2_with fail;refine HC.mono ?_;rw[<-hW];rintro e w1 ⟨rfl,A'⟩;have Eb:=C9.FF (DO w1 A');have Eh:=C9.FE (DO w1 A');have FZ:=C9.F3 (DO w1 A');have Ip:=C9.F2 (DO w1 A');have A0:=I A';clear A';go_wp2;refine Fn (v:=.tuple #[.agg #[d6,d6,d6],bl false]) (by simp[results,qq0,go_sem,Eb,Eh,FZ]) rfl ⟨⟨none,0,0,none,0,0,none,0,0,rfl,λh=>Bool.noConfusion h⟩,(((A8.trans A0).store 0 j0 _).store 1 j0 _).store 2 j0 _⟩
 ):σ:=h
theorem wk{w:J}{p:Int}{a:l9}{cap:Nat}{V:o3}(h:d9 w a n cap V):
 Calls prog 136 #[FS p a n cap] w λe w'=>Yc w' e (dM p.toNat n) (dY p.toNat) (aW V) (ak p V)/\C7 w w':=by
 have⟨W,hW⟩:=e9 ((w.alloc (QD #[U p,GI a n cap] 31)).alloc (QD #[d6,d6,d6] 105));refine ns (show W.heap.size=w.heap.size+2 by rw[hW];simp) (show C7 w W by rw[hW];exact WU.trans WU) (show W.cell? (O w 1)=some (GI a n cap)by rw[hW];simp) (show W.cell? (O w 0)=some (U p)by rw[hW];simp) (show W.heap[w.heap.size+1]?=some (QD #[d6,d6,d6] 105 (0,0))by rw[hW];exact IO j7) λDW A8 NZ M3 R5=>?_;have⟨WG,Rc⟩:=e9 (w.alloc (QD #[U p,GI a n cap] 31));refine Op (show C7 WG W by rw[hW,Rc];exact WU) (show WG.heap.size=w.heap.size+1 by rw[Rc];simp) (show WG.cell? (O w 0)=some (U p)by rw[Rc];simp) (show WG.cell? (O w 1)=some (GI a n cap)by rw[Rc];simp) λHXG MB HG0 Sj=>?_;clear Rc;have HVL:=I h.hlen;have⟨ND,NC⟩:=h.aq9;have I6:=I (h.ext A8);have HC:=I (bV (p:=p) (h.ext A8));have J':(w.heap.size+1)<W.heap.size:=by rw[DW.o];omega
 have DO:=I (λ(w':J) (hx:C7 W w')=>(hx.block _ J').trans R5);clear h J';cases hg:ak p V
 ·have qq0:=@results136;exact Qv
 obtain⟨q,rfl,h1,h5,hlen,_,FG⟩:=ap hg;have hq:=bp q h5;have GQ:n<=32:=by rw[<-HVL.o,hlen];omega
 have FT:1<=n:=by rw[<-HVL.o,hlen];omega
 have IG:=I FG;have Kv:=dk ((n:Int)-1);rw[hg,hW]at HC;clear hg hlen FG hq;go_in
 go_wp2_with fail;refine HC.mono ?_;rw[<-hW];clear hW;rintro e w1 ⟨rfl,A'⟩;have D1:=A'.o6 M3.o;have Eu:=A'.o6 NZ.o;have A0:=I A';clear A';refine t8 (A8.trans A0) (zX GQ) (show(EK 1 (n-1)).length=n-1 by simp[EK]) λNY Yh F5=>?_;go_wp2_with fail;have E:=C7.drew w1;refine nE (S:=(λw'=>w'.cell? (O w 0)=some (U q)/\w'.cell? (O w 1)=some (GI a n cap)/\C7 w w')) j8 ?_ (λH=>?_)
 ·exact⟨E.o6 D1,E.o6 Eu,NY.trans E⟩
 refine mq ⟨?_⟩;refine tk 5 ?_;refine tk 6 ?_;refine tk 8 ?_;refine tk 9 ?_;refine rd 3 λK hK=>?_;go_simp
 (go_at_call 196;refine PP (kx 1 ((n:Int)-1) (n-1) j0 j0 j0 j0) λw3 v3 EV B5=>?_;obtain⟨a3,n3,c3,rfl,LK⟩:=EV.var;have E:=E.trans B5;have B9:=I EV;clear EV)
 go_wp2_with fail;refine KO (an (E.o6 D1) (an (E.o6 Eu) (NY.trans E))) λH=>?_;refine rd 4 λK hK=>?_;go_simp
 (go_at_call 195;refine(kZ q h5 B9.ints Yh.o (by have h1:=LK.o;have h2:=F5.o;omega)).mono ?_;rintro e w4 ⟨⟨v4,rfl,Hd⟩,DN⟩;obtain⟨a4,n4,c4,rfl,Ys⟩:=Hd.var;have EI:=I (bZ.mono' Hd E.size);have E:=E.trans DN;clear Hd DN)
 go_wp2_with fail;refine KO (an (E.o6 D1) (an (E.o6 Eu) (NY.trans E))) λH=>?_;refine rd 7 λK hK=>?_;go_simp
 (go_at_call 197;refine PP (fZ q 1 j0) λw5 v5 Mq Ey=>?_;obtain⟨a5,n5,c5,rfl,It⟩:=Mq.var;have EI:=I (bZ.ext EI.o Ey);have DT:=I (Mq.mono E.size);have E:=E.trans Ey;clear Mq)
 go_wp2_with fail;refine KO (an (E.o6 D1) (an (E.o6 Eu) (NY.trans E))) λH=>?_;refine rd 10 λK hK=>?_;go_simp
 (go_at_call 198;refine PP (mY (p:=(q:Int)) (((I6.ext A0).ext E)) FT j0 IG) λw6 v6 JG Hg=>?_;obtain⟨a6,n6,c6,rfl,Ia⟩:=JG.var;have EI:=I (bZ.ext EI.o Hg);have DT:=I (DT.ext Hg);have EP:=I (JG.mono E.size);have E:=E.trans Hg;have IA:=DO.o _ (A0.trans E);have Eb:=C9.FF IA;have Eh:=C9.FE IA;have FZ:=C9.F3 IA;have Ip:=C9.F2 IA;clear JG IA)
 go_wp2_with fail;refine KO (an (E.o6 D1) (an (E.o6 Eu) (NY.trans E))) λH=>?_;refine tk 11 ?_;have Z:=λu0 u1 u2=>((((HXG.trans A0).trans E).store (b:=w.heap.size+1) 0 (wZ MB) u0).store (b:=w.heap.size+1) 1 (wZ MB) u1).store (b:=w.heap.size+1) 2 (wZ MB) u2;refine rd 12 λK hK=>?_;go_simp;refine hK.out _ _ ?_ (λH=>?_)
 ·exact⟨(Z _ _ _).o6 HG0.o,(Z _ _ _).o6 Sj.o,(((NY.trans E).store 0 j0 _).store 1 j0 _).store 2 j0 _⟩
 clear hK K
 try simp only[Act.put,sA,sB,sC]
 refine tk 13 ?_;refine Pi j8 ?_ _;have IK:=A0.size;rw[DW.o]at IK;have WA:∀k,w1.heap.size<=k->(((w6.setCell (O (w+1) 0) (GI a4 n4 c4)).setCell (O (w+1) 1) (GI a5 n5 c5)).setCell (O (w+1) 2) (GI a6 n6 c6)).heap[k]?=w6.heap[k]?:=λk Gj=>by
  rw[GE _ _ _ _ (show k≠w.heap.size+1 by omega),GE _ _ _ _ (show k≠w.heap.size+1 by omega),GE _ _ _ _ (show k≠w.heap.size+1 by omega)]
 go_wp2;refine Fn (v:=.tuple #[Ig a4 n4 c4 a5 n5 c5 a6 n6 c6,bl true]) (by simp[results,results136,go_sem,Eb,Eh,FZ]) rfl ⟨⟨a4,n4,c4,a5,n5,c5,a6,n6,c6,rfl,λ_=>⟨?_,?_,?_⟩⟩,(((NY.trans E).store 0 j0 _).store 1 j0 _).store 2 j0 _⟩
 ·exact bZ.Kq (EI.on _ λk h1 _=>WA k h1)
 ·exact(DT.on _ λk h1 _=>WA k h1).ints
 exact(EP.keep λk h1=>WA k (EP.lt k h1).1).rats
theorem ZJ{B:o3}{C:l7}(ok:Ej A B C=true){r:G9}(h:Gi A B C=some r)(hs:r.status=1):
 JL r.Y=JL B/\z7 r.value=true/\(∀k,k<JL r.Y->z7 (r.Y[k]?.getD (0,0))=true):=by
 have⟨h1,h2,Z,h4,h5,h6⟩:=gR ok;unfold Gi at h;rw[Z]at h;cases H:bD (eQ (JL C) (JL A)) 1000 (cz A B (JL C))with
 | none=>rw[H]at h;cases h
 | some p1 =>
   rw[H]at h;simp only[mr]at h;split at h
   ·rw[Sc]at h;obtain⟨Y,_,rfl⟩:=h;cases hs
   cases E:bP (JL C) (p1.t,p1.left) (JL A) with
   | none=>rw[E]at h;cases h
   | some s =>
     rw[E]at h;simp only[mr]at h;rw[Sc]at h;obtain⟨p2,e3,h⟩:=h;split at h
     ·subst h;cases hs
     have i1:=(eE (jD ok) H).1;have i2:=(gO (s:=(p1.t,p1.left)) i1 E).1;obtain⟨i3,e4,_⟩:=eE i2 e3;have⟨c1,c2⟩:=fi i3 e4;subst h;refine⟨by simp[Z],?_,λk Q=>?_⟩
     ·simp only;rw[eu];exact c1.2 _ j0
     simp only[dc,Rc]at Q;simp only;rw[vM,TA Q,yl,Nm];have K:=c1.2 (JL C+k) j0;unfold eM He;split
     ·rw[eu,eu];exact K
     rw[eu];exact K
theorem fu{bound:l8->l7->l7->Nat->Bool}{B:o3}{C:l7}(h:(bG bound A B C).status=1):
 Ej A B C=true/\Gi A B C=some (bG bound A B C)/\aQ bound A B C (bG bound A B C)=true/\(bG bound A B C).Y.length=JL B/\z7 (bG bound A B C).value=true/\∀k,k<(bG bound A B C).Y.length->z7 ((bG bound A B C).Y[k]?.getD (0,0))=true:=by
 cases ok:Ej A B C with
 | false=>unfold bG at h;rw[f7 (by rw[ok];simp)]at h;cases h
 | true =>
   cases hr:Gi A B C with
   | none =>
     have e:bG bound A B C=bh 4:=by unfold bG;rw[f9 ok,hr]
     rw[e]at h;cases h
   | some r =>
     have e:bG bound A B C=if aQ bound A B C r=true then r else bh 4:=by unfold bG;rw[f9 ok,hr]
     by_cases hc:aQ bound A B C r=true
     ·rw[f9 hc]at e;rw[e]at h⊢;have:=ZJ ok hr h;exact⟨rfl,rfl,hc,this⟩
     rw[f7 hc]at e;rw[e]at h;cases h
theorem jq(p:Nat->Bool)(k:Nat):(List.range (k+1)).all p=((List.range k).all p&&p k):=by
 rw[rN,tn];simp
theorem eh{p:Nat->Bool}(h:k<n)(E:p k=false):(List.range n).all p=false:=by
 rw[PZ];exact⟨k,sj.2 h,by simp[E]⟩
theorem wy(x:Int)(w:J):Calls prog 268 #[U x] w λe w'=>e=ar (bl (!A4 x (-5000) 5000))/\w=w':=by
 exact V1
theorem mW:NE prog 268:=cR func268 j8 j8
theorem kO(w:J):M8 prog w 268 #[] (λx=>!A4 x (-5000) 5000) :=
 λx E _=>(wy x E).mono λe w' ⟨H,hw⟩=>⟨H,hw▸WF⟩
def eR(m:Nat)(r:o3):Bool:=decide (JL r=m)&&r.all (A4 · (-5000) 5000)
theorem sM(l:o3):l.any (λx=>!A4 x (-5000) 5000)=!l.all (A4 · (-5000) 5000):=by rw[List.not_all_eq_any_not]
theorem lP(A:l8)(B:o3)(C:l7):Ej A B C=(decide (JL C<=70)&&(decide (JL A<=8)&&(decide (JL B=JL A)&&(FM C&&(A.all (eR (JL C))&&B.all (A4 · (-5000) 5000)))))):=rfl
theorem tQ{p:o3->Bool}{l:l8}(h:k<JL l):(l.take (k+1)).all p=((l.take k).all p&&p (l[k]?.getD [])):=by
 rw[fw h];simp
theorem jF{p:o3->Bool}{l:l8}(h:k<JL l)(hb:p (l[k]?.getD [])=false):l.all p=false:=by
 exact k4
section
variable{w:J}{a:l9}{na ca:Nat}{b:l9}{nb cb:Nat}{c:l9}{nc cc:Nat}{A:l8}{B:o3}{C:l7}
def F'(h:σ:=by
 (try unfold f8);go_in
 go_wp2;go_ret;exact⟨ag aa.symm,A8⟩
 ):σ:=h
theorem fB(h:Kh w a na ca b nb cb c nc cc A B C):
 f8 199 #[Ig a na ca b nb cb c nc cc] w (bl (Ej A B C)):=by
 have B8:=C7.alloc w (bT a na ca b nb cb c nc cc);refine t8 B8 (h.ext B8) (lP A B C) λA8 H HE=>?_;have⟨T',ON⟩:=h.a.aq9;have⟨E6,Ew⟩:=h.b.aq9;have⟨Eu,GU⟩:=h.c.aq9;refine t8 h.a.hlen h.b.hlen h.c.hlen λHc FN Hk=>?_;clear h B8;by_cases h1:nc<=70
 ·by_cases h2:na<=8
  ·by_cases h3:nb=na
   ·subst h3;have FD:((nb:Int) != (nb:Int))=false:=by simp
    have HN:=I (show Ej A B C=(FM C&&(A.all (eR nc)&&B.all (A4 · (-5000) 5000)))by
     rw[HE.o,Hc.o,FN.o,Hk.o,UV h1,UV h2,UV rfl];rfl)
    have HF:=I (mi H.c);cases hv:FM C
    ·rw[hv]at HF HN;clear hv;unfold f8;go_in
     go_wp2_with fail;refine IR HF λZ hx=>?_;have qq0:=@ag;exact o'
    rw[hv]at HF HN;clear hv;unfold f8;go_in
    go_wp2_with fail;refine i7 HF λZ hx=>?_;have D1:Z.cell? (O w 0)=some (GI a nb ca):=hx.o6 j7;have SH:Z.cell? (O w 1)=some (GI b nb cb):=hx.o6 j7;have K:Z.cell? (O w 2)=some (GI c nc cc):=hx.o6 j7;refine Op SH K (H.ext hx) (A8.trans hx) λSn Ju H1 X1=>?_;clear SH K;go_wp2
    go_loopg [34] nb (λgk ii wr=>∃k:Nat,b9 (gk+k=nb)/\ii=U k/\b9 ((A.take k).all (eR nc)=true)/\b9 (C7 Z wr))
    ·exact N0
    obtain⟨k,HK,rfl,HA,E⟩:=hrel;clear D1;by_cases hlt:k<nb
    ·have⟨gb,Ke,ra,rn,rc,SF,NI,z8⟩:=(H1.ext E).a.at hlt;subst SF;have K:=E.o6 Ju.o;have Ft:=I z8.hlen;have⟨IT,hrm⟩:=z8.aq9;have Zg:=I (show k<JL A by rw[Hc.o];exact hlt);have TT:=I (dH z8 mW (kO _));clear z8;cases hl:((rn:Int) != (nc:Int))
     ·cases hr:(A[k]?.getD []).all (A4 · (-5000) 5000)
      ·have aa:=I (show Ej A B C=false by
        rw[HN.o,jF Zg.o (by unfold eR;rw[hr];simp)];rfl)
       rw[sM,hr]at TT;clear hr;go_wp2_with fail;refine i7 TT λw2 C4=>?_;have X2:=I ((X1.trans E).trans C4);go_wp2;go_ret;exact⟨ag aa.symm,X2⟩
      have HT:=I (show(A.take (k+1)).all (eR nc)=true by
       rw[tQ Zg.o,HA.o];unfold eR;rw[hr,Ft.o];simp at hl⊢;omega)
      rw[sM,hr]at TT;clear hr;go_wp2_with fail;refine i7 TT λw2 C4=>?_;have X2:=I (E.trans C4);exact W2
     have aa:=I (show Ej A B C=false by
      rw[HN.o,jF Zg.o (by unfold eR;rw[Ft.o,Ok (by simp at hl;omega)];rfl)];rfl)
     go_wp2;go_ret;exact⟨ag aa.symm,X1.trans E.o⟩
    have DV:nb=k:=k8 HK.o;subst DV;have HT:=I (show A.all (eR nc)=true by have:=HA.o;rwa [bR (by rw[Hc.o];exact i8 _)]at this);have SH:=E.o6 Sn.o;have TT:=I (dH (H1.ext E).b mW (kO _));rw[sM]at TT;go_wp2_with fail;refine i7 TT λw2 C4=>?_;have X2:=I ((X1.trans E).trans C4);go_wp2;go_ret;exact⟨ag (by rw[HN.o,HT.o];simp),X2⟩
   have aa:=I (show Ej A B C=false by rw[HE.o,Hc.o,FN.o,Ok h3];simp);have FD:((nb:Int) != (na:Int))=true:=m9;exact F'
  have aa:=I (show Ej A B C=false by rw[HE.o,Hc.o,Ok h2];simp);exact F'
 have aa:=I (show Ej A B C=false by rw[HE.o,Hk.o,Ok h1];simp);exact F'
end
theorem gG{r:o3}(h:∀x∈r,-5000<=x/\x<=5000):eS r=aG r:=by
 unfold eS Ls;rw[f9];rw[gy];intro x hx;have:=h x hx;simp[A4];omega
def iD(A:l8)(x:l7)(B:o3)(i:Nat):Bool:=decide (DZ (aG (A[i]?.getD [])) x=some (B[i]?.getD 0,1))
theorem ue(A:l8)(x:l7)(B:o3):em A x B=(List.range (JL A)).all (iD A x B):=rfl
def SG(h:σ:=by
 obtain⟨r1,r2⟩:=r;rw[show Ex (some (r1,r2))=((r1,r2),true)from rfl]at HD;go_wp2_with fail;refine HD.mono ?_;rintro e w3 ⟨rfl,B5⟩;replace QB:=B5.o6 QB;have X3:=I (X2.trans B5);clear B5;have⟨E,hE⟩:=e9 (w3.alloc (QD #[U r1,U r2] 56));have Gg:C7 w3 E:=by rw[hE];exact WU
 have XE:=I (X3.trans Gg);have e0:=Gg.o6 QB;have b0:E.cell? (O w3.heap.size 0)=some (U r1):=by rw[hE];simp
 have b1:E.cell? (O w3.heap.size 1)=some (U r2):=by rw[hE];simp
 go_upto_region 5 with fail;rw[<-hE];clear hE QB Gg;have B6:(k:Int)<(dn:Int):=by omega
 have KN:(0:Int)<=(k:Int):=by omega
 have o7:C7 E E.drew:=C7.drew E;have o8:=I λw' (h:C7 E w')=>TX (h.o6 e0) (TX (h.o6 b0) (TX (h.o6 b1) h));have Kl:=I (show iD A X D k=((r1 == d)&&(r2 == 1))by rw[HG.o,yy];simp);cases A':(r1 == d)
 all_goals
  cases EN:(r2 == 1)
 all_goals
  have Ns:=I Kl.o;rw[A',EN]at Ns
  go_region_held3 (λw'=>w'.cell? (O db (OO+k))=some (U d)/\w'.cell? (O w3.heap.size 0)=some (U r1)/\w'.cell? (O w3.heap.size 1)=some (U r2)/\C7 E w')
   (first
     | with_reducible exact o8.o _ o7)
   (first
     | ((with_reducible refine(qq0 _ _).mono ?_)
        rintro e w5 ⟨rfl,Ey⟩;have o7:C7 E w5:=o7.trans Ey))
  have X5:=I (XE.trans o7);clear o7
 all_goals try(
  have HF:=I (show em A X D=false by rw[HE.o];exact eh hlt (by rw[Ns.o];rfl));go_wp2;go_ret;exact⟨ag HF.symm,A8.trans X5.o⟩)
 have HT:=I (show(List.range (k+1)).all (iD A X D)=true by rw[jq,HA.o,Ns.o];rfl);go_wp2_with fail;refine er ?_;exact⟨k+1,I (k8 HK.o),by go_num,HT,X5⟩
 ):σ:=h
def Q6(h:σ:=by
 rw[show Ex none=((0,0),false)from rfl]at HD;have HF:=I (show em A X D=false by rw[HE.o];exact eh hlt (by rw[HG.o];rfl));go_wp2_with fail;refine HD.mono ?_;rintro e w3 ⟨rfl,B5⟩;have X3:=I (X2.trans B5);clear B5 QB;have⟨E,hE⟩:=e9 (w3.alloc (QD #[U 0,U 0] 56));have XE:=I (show C7 w3 E by rw[hE];exact WU);go_upto_region 5 with fail;rw[<-hE];clear hE;have o7:C7 E E.drew:=C7.drew E;refine nE (S:=(λw'=>C7 E w')) j8 ?_ (λo9=>?_)
 ·exact o7
 refine mq ⟨?_⟩;refine PV ⟨?_⟩;refine tk 7 ?_;refine tk 8 ?_;refine tk 9 ?_;refine tk 10 ?_;refine Pi j8 ?_ _;go_wp2;go_ret;exact⟨ag HF.symm,((A8.trans X3).trans XE).trans o7⟩
 ):σ:=h
def YF(h:σ:=by
 go_wp2;go_ret;exact⟨qq0 (by rw[HE.o,HA.o]),A8.trans HX.o⟩
 ):σ:=h
theorem zw{w:J}{a:l9}{na ca:Nat}{b:l9}{nb cb:Nat}{c:l9}{nc cc:Nat}(h:dB w a na ca A){xa:l9}{xn Nv:Nat}{X:l7}(hX:i6 w xa xn Nv X)
 {da:l9} {dn Xv:Nat} {D:o3} (hD:d9 w da dn Xv D) (hdn:na<=dn) (H:∀i,i<na->JL (A[i]?.getD [])<=70/\∀x∈A[i]?.getD [],-5000<=x/\x<=5000) :
 f8 279 #[Ig a na ca b nb cb c nc cc,GI xa xn Nv,GI da dn Xv] w (bl (em A X D)):=by
 have K:=C7.alloc w (bT a na ca b nb cb c nc cc);refine ns K (h.ext K) (hX.ext K) (hD.ext K) H λA8 HI Ir Km GA=>?_;have⟨T',ON⟩:=h.aq9;have⟨PH,WL⟩:=hD.aq9;have Hc:=I h.hlen;have HE:=I (show em A X D=(List.range na).all (iD A X D)by rw[ue,Hc.o]);clear h hX hD K H;unfold f8;go_in
 go_wp2
 go_loopg [14] na (λgk ii wr=>∃k:Nat,b9 (gk+k=na)/\ii=U k/\b9 ((List.range k).all (iD A X D)=true)/\b9 (C7 (w.alloc (bT a na ca b nb cb c nc cc)) wr))
 ·exact N0
 obtain⟨k,HK,rfl,HA,HX⟩:=hrel;have Z:=HX.size;rw[O6]at Z;by_cases hlt:k<na
 ·have⟨gb,Ke,ra,rn,rc,SF,NI,H⟩:=(HI.ext HX).at hlt;subst SF;have IT:rn<=70:=by rw[<-H.hlen];exact(GA k hlt).1
  have Kj:=I (jv H j0);rw[gG (GA k hlt).2]at Kj;clear H;go_wp2_with fail;refine PP Kj λw2 v2 Gs C4=>?_;obtain⟨a2,n2,c2,rfl,Nf⟩:=Gs.var;have X2:=I (HX.trans C4);have HD:=I (im Gs.rats (Ir.ext X2));clear Gs Nf;have⟨dv,JX⟩:=e9 (DZ (aG (A[k]?.getD [])) X);have HG:=I (show iD A X D k=decide (dv=some (D[k]?.getD 0,1))by rw[JX];rfl);rw[<-JX]at HD;clear JX;have⟨db,OO,hda,QB⟩:=(Km.ext X2).at (show k<dn by omega);subst hda;generalize D[k]?.getD 0=d at HG QB;cases dv with
  | none =>
    exact Q6
  | some r =>
    have qq0:=@cO;exact SG
 have DV:na=k:=k8 HK.o;subst DV;have qq0:=@ag;exact YF
