import Derived.Test.YthpahcbmpoknmaaGreatDoorPzG14
set_option linter.all false
set_option maxHeartbeats 6000000
set_option maxRecDepth 100000
namespace Go.Proofs.YthpahcbmpoknmaaGreatDoor
open Ending renaming returned->atn
open List renaming length->Lp
open Obj renaming cells->SH
open Value renaming slice->FB,bool->ato,pointer->ats
open Go.Proofs.Tryz Go.RowKit
variable{σ:Prop}
section
def UN{P Q:Prop}(k:ob Q)(h:ob Q->P:=by intro k;refine tk 18 ?_;refine tk 19 ?_;refine tk 20 ?_;exact k.1):P:=h k
def Sv{P Q:Prop}(k:ob Q)(h:ob Q->P:=by intro k;refine tk 14 ?_;refine tk 15 ?_;refine tk 16 ?_;refine tk 17 ?_;exact k.1):P:=h k
def VU{P Q:Prop}(k:ob Q)(h:ob Q->P:=by intro k;refine tk 4 ?_;refine tk 5 ?_;refine tk 6 ?_;refine tk 7 ?_;refine tk 8 ?_;refine tk 9 ?_;refine tk 10 ?_;exact k.1):P:=h k
def ks{P Q:Prop}(k:ob Q)(h:ob Q->P:=by intro k;refine tk 0 ?_;refine tk 1 ?_;refine tk 2 ?_;exact k.1):P:=h k
def C2{P Q:Prop}(k:ob Q)(h:ob Q->P:=by intro k;refine tk 14 ?_;refine tk 15 ?_;refine tk 16 ?_;refine tk 17 ?_;refine tk 18 ?_;refine tk 19 ?_;refine tk 20 ?_;refine tk 21 ?_;refine tk 22 ?_;exact k.1):P:=h k
def ta{P Q:Prop}(k:ob Q)(h:ob Q->P:=by intro k;refine tk 0 ?_;refine tk 1 ?_;refine tk 2 ?_;refine tk 3 ?_;refine tk 4 ?_;refine tk 5 ?_;refine tk 6 ?_;refine tk 7 ?_;refine tk 8 ?_;refine tk 9 ?_;refine tk 10 ?_;refine tk 11 ?_;refine tk 12 ?_;refine tk 13 ?_;exact k.1):P:=h k
def v8{A0 A1 A2 A3 Z A5 K H A8 P:Prop}(a0:A0)(a1:A1)(a2:A2)(a3:A3)(a4:Z)(a5:A5)(a6:K)(a7:H)(a8:A8)(h:e9 A0->e9 A1->e9 A2->e9 A3->e9 Z->e9 A5->e9 K->e9 H->e9 A8->P):P:=h a0 a1 a2 a3 a4 a5 a6 a7 a8
def TS{A0 A1 A2 A3 Z A5 K H P:Prop}(a0:A0)(a1:A1)(a2:A2)(a3:A3)(a4:Z)(a5:A5)(a6:K)(a7:H)(h:e9 A0->e9 A1->e9 A2->e9 A3->e9 Z->e9 A5->e9 K->e9 H->P):P:=h a0 a1 a2 a3 a4 a5 a6 a7
def ZH{A0 Z A2 A3 K A5 H P:Prop}(a0:A0)(a1:Z)(a2:A2)(a3:A3)(a4:K)(a5:A5)(a6:H)(h:e9 A0->e9 Z->e9 A2->e9 A3->e9 K->e9 A5->e9 H->P):P:=h a0 a1 a2 a3 a4 a5 a6
def TH(h:σ:=by first|with_reducible exact r7.trans B7|with_reducible exact Fu.trans B7|with_reducible exact(r7.trans (D4.alloc _ _)).trans B7):σ:=h
def Sw(h:σ:=by first|with_reducible exact Jd.rats|with_reducible exact(Jd.ext ZL).rats):σ:=h
def E9(h:σ:=by rw[Gq.o];omega):σ:=h
def U5(h:σ:=by rw[<-H7.o];exact Fj):σ:=h
def My(h:σ:=by first|with_reducible exact Gw.ints|with_reducible exact(Gw.ext ZL).ints):σ:=h
def ZU(h:σ:=by simp[results,results331,go_sem,r0,r1,r2,rf]):σ:=h
def TZ(h:σ:=by rw[<-MY.o];have:=Sb.o;omega):σ:=h
def o2(h:σ:=by rw[Qw.o];omega):σ:=h
def RU(h:σ:=by have:=Fj.o;rw[vl,<-WR]at this;exact this):σ:=h
def Uv(h:σ:=by have:=Nw.out;have:=HCL.o;have:=Jc.o;omega):σ:=h
def Jh(h:σ:=by have:=Fj.o;rw[<-WR]at this;exact this):σ:=h
def SD{P Q:Prop}(q:Q)(h:Q->P:=by intro q;go_roundg (gk-1);exact q;have:=Q3.o;omega):P:=h q
variable{t:Tb}{k i n j r:Nat}{M:List (o3)}{main:o3}
def LJ(st cc bi bb:Int):Bool:=decide (st<0)||(decide (cc<0)||(decide (cc=0)&&decide (bi<bb)))
theorem yh{c:Nat}{st:Int×(Int×Int)}{p:o8}(H:t.at k c=p)(h:D' p (0,1)<=0):eK t c st k=st:=by
 unfold eK;rw[H,i7 h]
theorem yi{c:Nat}{st:Int×(Int×Int)}{u:Nat}{p q:o8}(H:u=t.A'.toNat+Lp t.rows)(Q:t.at k c=p)(K:t.at k u=q)(h:¬D' p (0,1)<=0)(Z:(Hu q p).2=false):eK t c st k=st:=by
 unfold eK;rw[Q,f8 h,<-H,K,i7 Z]
theorem yj{c:Nat}{st:Int}{l:o8}{u:Nat}{p q d:o8}(Q:u=t.A'.toNat+Lp t.rows)(hp:t.at k c=p)(Z:t.at k u=q)(h:¬D' p (0,1)<=0)(hd:Hu q p=(d,true)){H K:Int}(hb:t.basis[k]?.getD 0=H)(GY:t.basis[st.toNat]?.getD 0=K):
 eK t c (st,l) k=if LJ st (D' d l) H K=true then((k:Int),d) else(st,l):=by
 unfold eK;rw[hp,f8 h,<-Q,Z,hd,f8 j9];simp only[hb,GY,LJ,Bool.or_eq_true,cM,cq]
theorem lS(t:Tb)(c:Nat):∀k,(cX t c k).1=-1∨(0<=(cX t c k).1/\(cX t c k).1<k)
 | 0=>.inl rfl
 | k+1=>by
   have ih:=lS t c k
   show(eK t c (cX t c k) k).1=-1∨(0<=(eK t c (cX t c k) k).1/\(eK t c (cX t c k) k).1<((k+1:Nat):Int));unfold eK
   split
   ·omega
   split
   ·omega
   split
   ·right;simp;omega
   omega
section
variable{w:J}{ra:o6}{rn rc:Nat}{ba:o6}{bn bc:Nat}{t:Tb}
def fo(h:σ:=by
 clear hx;go_wp2_with rfl;refine dk ?_;exact⟨k+1,st,l1,l2,I (l8 HK.o),by go_num,rfl,Hx,F1⟩
 ):σ:=h
def Zu(h:σ:=by
 go_wp2_with rfl;refine dk ?_;exact⟨k+1,(k:Int),d1,d2,I (l8 HK.o),by go_num,rfl,Hx,Pw⟩
 ):σ:=h
def Q1(h:σ:=by
 go_wp2_with rfl;refine dk ?_;exact⟨k+1,st,l1,l2,I (l8 HK.o),by go_num,rfl,Hx,Hc⟩
 ):σ:=h
theorem xJ(h:QW w ra rn rc ba bn bc t)(Kk:rn<=100000)(Fm:Int):
 f9 329 #[Qk ra rn rc ba bn bc t.A',U Fm] w (U (dN t Fm)):=by
 have HF:=I (ld (h.ext (D4.alloc w (dh ra rn rc ba bn bc t.A'))) O);have HTP:=I (λok=>jb h ok);obtain⟨rows,basis,x⟩:=t;have B9:=D4.alloc w (dh ra rn rc ba bn bc x);have B4:=I B9;have H:=I (h.ext B9);have⟨FL,Hs⟩:=h.rows.ath;have⟨Gm,F0⟩:=h.basis.ath;have GS:=I h.rows.hlen;have HE:=I (show dN ⟨rows,basis,x⟩ Fm=if(JF ⟨rows,basis,x⟩&&A8 Fm 0 (x+(rn:Int)-1))=true then(cX ⟨rows,basis,x⟩ Fm.toNat rn).1 else -1 by
  unfold dN;simp only;rw[h.rows.hlen])
 clear h B9;show Calls _ _ #[Qk ra rn rc ba bn bc x,U Fm] w _;cases D9:JF ⟨rows,basis,x⟩
 ·rw[D9]at HF;have HN:=I (show dN ⟨rows,basis,x⟩ Fm=-1 by rw[HE.o,D9];rfl);clear D9;go_in
  go_wp2_with rfl;refine i6 HF λw1 hx=>?_;have qq0:=@au;exact rj
 rw[D9]at HF;have⟨m,RZ,hm,Pg,GN,Kt⟩:=HTP.o D9;simp only at RZ;subst RZ Pg;have hre:=I D9;replace GN:=I GN;replace Kt:=I Kt;clear D9;have HIW:=I (λw=>av Fm 0 ((m:Int)+(bn:Int)-1) w);cases FA:A8 Fm 0 ((m:Int)+(bn:Int)-1)
 ·have HN:=I (show dN ⟨rows,basis,(m:Int)⟩ Fm=-1 by rw[HE.o,FA];simp);simp only[FA]at HIW;clear FA;go_in
  go_wp2_with rfl;refine qc HF λw1 hx=>?_;have c0:w1.cell? (IM w 0)=some (FB ra bn rc):=hx.o9 j9;have c2:w1.cell? (IM w 2)=some (U m):=hx.o9 j9;have X1:=I (B4.trans hx);go_wp2_with rfl;refine(HIW _).mono ?_;rintro e w2 ⟨rfl,rfl⟩;go_wp2;go_ret;exact⟨au HN.symm,X1⟩
 obtain⟨c,rfl⟩:∃c:Nat,Fm=c:=⟨Fm.toNat,by simp[A8]at FA;omega⟩;have hc:c<m+bn:=by simp[A8]at FA;omega
 have HR:=I (show dN ⟨rows,basis,(m:Int)⟩ (c:Int)=(cX ⟨rows,basis,(m:Int)⟩ c bn).1 by rw[HE.o,hre.out,FA];simp);simp only[FA]at HIW;clear FA;have⟨u,hu⟩:=j7 (m+bn);have HU:=I (show u=(Tb.mk rows basis (m:Int)).A'.toNat+(Tb.mk rows basis (m:Int)).rows.length by show u=Int.toNat (m:Int)+Lp rows;rw[show rows.length=bn from GS.o];omega);have HUM:=I hu;have hcu:c<u:=O;have hub:u<=200000:=O;clear hu;go_in
 go_wp2_with rfl;refine qc HF λw1 hx=>?_;have c0:w1.cell? (IM w 0)=some (FB ra bn rc):=hx.o9 j9;have c1:w1.cell? (IM w 1)=some (FB ba bn bc):=hx.o9 j9;have c2:w1.cell? (IM w 2)=some (U m):=hx.o9 j9;refine Fn c1 (B4.trans hx) (H.ext hx) λC1 X1 H1=>?_;have J2:w.heap.size<w1.heap.size:=by have:=hx.size;simp at this;omega
 clear c1;go_wp2_with rfl;refine(HIW _).mono ?_;rintro e w2 ⟨rfl,rfl⟩;have Mo:=I (ai.new (D4.refl w1) 0 0);go_wp2
 go_loopg [5,30] bn (λgk bst ii wr=>∃(k:Nat) (st l1 l2:Int),e9 (gk+k=bn)/\ii=U k/\bst=U st/\e9 (cX ⟨rows,basis,(m:Int)⟩ c k=(st,(l1,l2)))/\e9 (ai w1 wr w1 l1 l2))
 ·exact⟨0,-1,0,0,I O,rfl,rfl,I rfl,Mo⟩
 obtain⟨k,st,l1,l2,HK,rfl,rfl,HL,HB⟩:=hrel;clear c0 c2;by_cases hlt:k<bn
 ·have⟨zb,Gd,za,zn,zc,Lf,Hl,A4⟩:=(H1.ext HB.ext).rows.at hlt;subst Lf;have Vn:zn=u+1:=by rw[<-A4.hlen,HUM.o];exact GN.o k hlt
  have HZN:=I Vn;have⟨NI,hrm⟩:=A4.ath;have Ja:=I A4;have⟨yb,F3,p,q,MT,Fw,JB,F7⟩:=A4.at (show c<zn by omega);subst MT;have Gi:e9 (Tb.at ⟨rows,basis,(m:Int)⟩ k c=(p,q)):=Fw;have HS:=I (YQ p q wr);have⟨sg,LQ⟩:=j7 (D' (p,q) (0,1));have MY:=I LQ;rw[<-LQ]at HS;have hcz:c<zn:=O;clear Fw LQ A4 Vn;by_cases ME:sg<=0
  ·have Hx:=I (show cX ⟨rows,basis,(m:Int)⟩ c (k+1)=(st,(l1,l2))by
    show eK _ c (cX _ c k) k=_;rw[HL.o];exact yh Gi.o (by rw[<-MY.o];exact ME))
   go_wp2_with rfl;refine i6 HS λw3 hx=>?_;have F1:=I (HB.grow hx);exact fo
  have Sb:=I ME;go_wp2_with rfl;refine qc HS λw3 hx=>?_;have F1:=I (HB.grow hx);replace JB:=hx.o9 JB;replace F7:=hx.o9 F7;have⟨ub,abX,p',q',hua,Zn,MB,Lh⟩:=(Ja.ext hx).at (show u<zn by have:=HZN.o;omega);obtain⟨rfl,rfl⟩:=er hua;clear hua;have HQQ:e9 (Tb.at ⟨rows,basis,(m:Int)⟩ k u=(p',q')):=Zn;obtain⟨d1,d2,OL,hdd⟩:∃x y ok,Hu (p',q') (p,q)=((x,y),ok):=⟨_,_,_,rfl⟩;have Mb:=I hdd;clear Zn hdd Hl;have hwr:IntKind.i64.wrap ((zn:Int)-1)=(u:Int):=by have:=HZN.o;rw[j0];omega
  have Li:=aE u;have LP:(u:Int)<(zn:Int):=l8 HZN.o;have Fo:=aE c;have FQ:=SW c zn;go_upto_region 9 with rfl
  go_cut [9,10] (λsx so wx=>∃g:Nat,sx=ats (some (IM g 0))/\so=ato OL/\e9 (ai w3 wx g d1 d2))
  case first =>
   have r7:=D4.drew w3;have Fu:D4 w3 (w3.alloc (SH #[U 0,U 0] 80)).drew:=ZL.trans fl;have r8:=I (λ(w':J) (h:D4 w3 w')=>(an (h.o9 JB) (an (h.o9 F7) (an (h.o9 MB) (an (h.o9 Lh) h)))))
   go_region_held3 (λw'=>w'.cell? (IM yb (F3+c*2))=some (U p)/\w'.cell? (IM yb (F3+c*2+1))=some (U q)/\w'.cell? (IM yb (F3+u*2))=some (U p')/\w'.cell? (IM yb (F3+u*2+1))=some (U q')/\D4 w3 w')
    (exact yg)
    (first
      | ((with_reducible refine(xE p' q' p q _).mono ?_)
         rw[Mb.o];rintro e w5 ⟨rfl,B7⟩
         try with_reducible first|have A7:=ai.grow A7 B7|have A7:=ai.Fk B7|have A7:=ai.Fq r7 B7
         try(have Ko:=A7.c0;have Kn:=A7.c1;have L4:=A7.free)
         have r7:D4 w3 w5:=TH;have G7:=r7.size))
   all_goals(exact yx)
  obtain⟨g,rfl,rfl,FJ⟩:=hcut;clear hwr Li LP Fo FQ JB F7 MB Lh;have Hc:=I (F1.grow FJ.ext);cases OL
  ·have Hx:=I (show cX ⟨rows,basis,(m:Int)⟩ c (k+1)=(st,(l1,l2))by
    show eK _ c (cX _ c k) k=_;rw[HL.o];exact yi HU.o Gi.o HQQ.o TZ (by rw[Mb.o]))
   exact Q1
  have g0:=FJ.c0;have g1':=FJ.c1;have b0:=Hc.c0;have b1:=Hc.c1;have Jz:=I (gQ d1 d2 l1 l2 wc);have⟨cc,Qh⟩:=Ok (D' (d1,d2) (l1,l2));rw[<-Qh.o]at Jz;go_wp2_with rfl;refine qc Jz λw6 hx=>?_;have Ke:=I (Hc.grow hx);have HG6:=I (FJ.grow hx);clear g0 g1' b0 b1;have c1:=Ke.ext.o9 C1.o;have⟨eb,D6,Kl,GI⟩:=(H1.ext Ke.ext).basis.at hlt;subst Kl;have⟨bi,Q6⟩:=Ok (basis[k]?.getD 0);rw[<-Q6.o]at GI;have IY:=I (lS ⟨rows,basis,(m:Int)⟩ c k);have MI:=aE k;have Ij:=SW k bn;have HUP:=I (λZ (GY:basis[st.toNat]?.getD 0=Z)=>show cX ⟨rows,basis,(m:Int)⟩ c (k+1)=if LJ st cc bi Z=true then((k:Int),(d1,d2)) else(st,(l1,l2))by
   show eK _ c (cX _ c k) k=_;rw[HL.o,Qh.o];exact yj HU.o Gi.o HQQ.o TZ Mb.o Q6.symm GY)
  go_upto_region 12 with rfl
  go_cut [82] (λs82 wx=>∃Z:Int,s82=ato (LJ st cc bi Z)/\e9 (basis[st.toNat]?.getD 0=Z)/\e9 (D4 w6 wx))
  case first =>
   have r7:=D4.drew w6;by_cases hst:st<0
   ·have Pe:decide (st<0)=true:=bl hst;refine k6 (S:=(λw'=>w'.cell? (IM w 1)=some (FB (some (IM eb D6)) bn bc)/\w'.cell? (IM eb (D6+k))=some (U bi)/\D4 w6 w')) k8 ?_ (λr9=>?_)
    ·exact⟨r7.o9 c1,r7.o9 GI,r7⟩
    refine ta ⟨?_⟩;refine C2 ⟨?_⟩;refine ST k8 ?_ _;go_wp2;go_meet;exact⟨_,by unfold LJ;rw[Pe];rfl,I rfl,I r7⟩
   have Pe:decide (st<0)=false:=RK O;obtain⟨sn,rfl⟩:∃sn:Nat,st=sn:=⟨st.toNat,by omega⟩;have hsn:sn<bn:=by have:=IY.o;rw[HL.o]at this;simp only at this;omega
   have⟨fb,PV,hfa,Re⟩:=(H1.ext Ke.ext).basis.at hsn;obtain⟨rfl,rfl⟩:=er hfa;clear hfa;have⟨Z,GY⟩:=j7 (basis[sn]?.getD 0);have Hy:=I (show basis[Int.toNat (sn:Int)]?.getD 0=Z by rw[eI,GY]);rw[<-GY]at Re;have hs0':=aE sn;have hs1':=SW sn bn;clear GY;by_cases hcc:cc<0
   ·have RA:decide (cc<0)=true:=bl hcc;refine k6 (S:=(λw'=>w'.cell? (IM w 1)=some (FB (some (IM eb D6)) bn bc)/\w'.cell? (IM eb (D6+k))=some (U bi)/\D4 w6 w')) k8 ?_ (λr9=>?_)
    ·exact⟨r7.o9 c1,r7.o9 GI,r7⟩
    refine ta ⟨?_⟩;refine C2 ⟨?_⟩;refine ST k8 ?_ _;go_wp2;go_meet;exact⟨Z,by unfold LJ;rw[Pe,RA];rfl,Hy,I r7⟩
   have RA:decide (cc<0)=false:=RK O;by_cases Fo:cc=0
   ·subst Fo;refine k6 (S:=(λw'=>w'.cell? (IM w 1)=some (FB (some (IM eb D6)) bn bc)/\w'.cell? (IM eb (D6+k))=some (U bi)/\w'.cell? (IM eb (D6+sn))=some (U Z)/\D4 w6 w')) k8 ?_ (λr9=>?_)
    ·exact⟨r7.o9 c1,r7.o9 GI,r7.o9 Re,r7⟩
    refine ta ⟨?_⟩;refine C2 ⟨?_⟩;refine ST k8 ?_ _;go_wp2;go_meet;exact⟨Z,by unfold LJ;rw[Pe];rfl,Hy,I r7⟩
   have VC:(cc == 0)=false:=t8;refine k6 (S:=(λw'=>w'.cell? (IM w 1)=some (FB (some (IM eb D6)) bn bc)/\w'.cell? (IM eb (D6+k))=some (U bi)/\D4 w6 w')) k8 ?_ (λr9=>?_)
   ·exact⟨r7.o9 c1,r7.o9 GI,r7⟩
   refine ta ⟨?_⟩;refine C2 ⟨?_⟩;refine ST k8 ?_ _;go_wp2;go_meet;exact⟨Z,by unfold LJ;rw[Pe,RA,RK Fo];rfl,Hy,I r7⟩
  obtain⟨Z,rfl,Hy,RL⟩:=hcut;refine Fn (Ke.grow RL) (HG6.grow RL) (HUP Z Hy) λKX Uv HU2=>?_;clear c1 GI;cases Y6:LJ st cc bi Z
  ·have Hx:=I (show cX ⟨rows,basis,(m:Int)⟩ c (k+1)=(st,(l1,l2))by rw[HU2.o,Y6];rfl);go_wp2_with rfl;refine dk ?_;exact⟨k+1,st,l1,l2,I (l8 HK.o),by go_num,rfl,Hx,KX⟩
  have Hx:=I (show cX ⟨rows,basis,(m:Int)⟩ c (k+1)=((k:Int),(d1,d2))by rw[HU2.o,Y6];rfl);have g0:=Uv.c0;have g1':=Uv.c1;have b0:=KX.c0;have b1:=KX.c1;have bf:=KX.free;have Pw:=I ((KX.grow (D4.drew wc)).put d1 d2);go_upto_region 13 with rfl
  go_still_tail 3,k8
  exact Zu
 have E':bn=k:=l8 HK.o;subst E';have HY:=I (show dN ⟨rows,basis,(m:Int)⟩ (c:Int)=st by rw[HR.o,HL.o]);go_wp2;go_ret;exact⟨au HY.symm,X1.trans HB.ext⟩
end
theorem JO.N9{w:J}{base G N cap:Nat}{vs:List atY}(h:JO w base (some (IM G 0)) N cap vs M){g c:Nat}(hi:i<N)(hv:vs[i]?.getD undef=GT g n c)(K:j<Lp (M[i]?.getD []))(x y:Int):
 JO ((w.setCell (IM g (j*2)) (U x)).setCell (IM g (j*2+1)) (U y)) base (some (IM G 0)) N cap vs (M.set i ((M[i]?.getD []).set j (x,y))):=by
 have K2:i<Lp M:=by rw[h.len];exact hi
 have hr:=h.rows.row i K2;rw[hv]at hr;have hgG:g≠G:=λe=>hr.apart h.own g rfl N0
 have H:∀k,k≠g->((w.setCell (IM g (j*2)) (U x)).setCell (IM g (j*2+1)) (U y)).heap[k]?=w.heap[k]?:=λk hk=>by
  rw[If _ _ _ _ hk,If _ _ _ _ hk]
 refine⟨h.own.keep λk hk=>H k Qu,?_⟩;refine⟨by rw[km];exact h.rows.len,λk hk=>?_,λa b k VF hb=>h.rows.apart a b k VF (by rw[km]at hb;exact hb)⟩;rw[km]at hk;by_cases IG:k=i
 ·subst IG;rw[hv,tu K2];exact hr.set K x y
 rw[pk (vA IG)];refine(h.rows.row k hk).keep λb hb=>H b λe=>?_;exact Ve
structure OO(w:J)(base g G N cap:Nat)(vb:atY)(x:Int)(vs:List atY)(M:List (o3))(l:o7):Prop where
 box:w.heap[g]?=some (SH #[GT G N cap,vb,U x] 216 (0,0))
 hg:base<=g
 m:JO w base (some (IM G 0)) N cap vs M
 b:y9 w base vb l
section
variable{w:J}{base g G N cap:Nat}{vb:atY}{x:Int}{vs:List atY}{M:List (o3)}{l:o7}
theorem OO.ext{w':J}(h:OO w base g G N cap vb x vs M l)(hx:D4 w w'):OO w' base g G N cap vb x vs M l:=⟨(hx.block _ (IO h.box)).trans h.box,h.hg,h.m.ext hx,h.b.ext hx⟩
theorem OO.own(h:OO w base g G N cap vb x vs M l):GR w base (GT G N cap) vb vs ⟨M,l,x⟩:=⟨h.m.own,h.m.rows,h.b⟩
theorem OO.c0(h:OO w base g G N cap vb x vs M l):w.cell? (IM g 0)=some (GT G N cap):=aw h.box
theorem OO.aiY(h:OO w base g G N cap vb x vs M l){i:Nat}{g':Nat}(hi:i<Lp M)(H:(vs[i]?.getD undef).ownBlock=some g'):g'≠g/\vb.ownBlock≠some g':=by
 have hr:=h.m.rows.row i hi;exact⟨λe=>(aq hr h.box FS) (by rw[H,e]),λe=>aD FS hr h.b g' H e⟩
theorem OO.N9(h:OO w base g G N cap vb x vs M l){i n g' c:Nat}(hi:i<N)(H:vs[i]?.getD undef=GT g' n c){j:Nat}(Q:j<Lp (M[i]?.getD []))(p q:Int):
 OO ((w.setCell (IM g' (j*2)) (U p)).setCell (IM g' (j*2+1)) (U q)) base g G N cap vb x vs (M.set i ((M[i]?.getD []).set j (p,q))) l:=by
 have⟨K,Z⟩:=h.aiY (i:=i) (g':=g') (by rw[h.m.len];exact hi) (by rw[H];rfl);refine⟨?_,h.hg,h.m.N9 hi H Q p q,h.b.keep λk hk=>?_⟩
 ·rw[If _ _ _ _ K.symm,If _ _ _ _ K.symm];exact h.box
 have:k≠g':=λe=>Z N3
 rw[If _ _ _ _ this,If _ _ _ _ this]
theorem OO.put{K:J}(h:OO w base g G N cap vb x vs M l)(hx:D4 w K)(hb:base<=w.heap.size){v:atY}{r:o3}(ho:ZM K w v r){i:Nat}(hi:i<N):
 OO (K.setCell (IM G i) v) base g G N cap vb x (vs.set i v) (M.set i r) l:=by
 have H:=h.ext hx;have Z:g≠G:=λe=>(aq h.m.own h.box FS) (by rw[e];rfl)
 refine⟨by rw[If _ _ _ _ Z];exact H.box,h.hg,h.m.put hx hb ho hi,H.b.keep λk Q=>If _ _ _ _ λe=>?_⟩;exact aD FS H.b H.m.own k Q N0
theorem OO.putB{B n bc:Nat}(h:OO w base g G N cap (GT B n bc) x vs M l)(i:Nat)(z:Int):
 OO (w.setCell (IM B i) (U z)) base g G N cap (GT B n bc) x vs M (l.set i z):=by
 have K:g≠B:=λe=>(aq h.b h.box FS) (by rw[e];rfl)
 refine⟨by rw[If _ _ _ _ K];exact h.box,h.hg,h.m.keep (λk H=>If _ _ _ _ λe=>?_) (λj k Q H=>If _ _ _ _ λe=>?_),h.b.set i z⟩
 ·exact aD FS h.m.own h.b k H N0
 exact aD FS (h.m.rows.row j (by rw[h.m.len];exact Q)) h.b k H N0
end
def eB(t:Tb)(row Fm:Int):Tb:=(bW t row Fm).getD t
theorem Ev{row Fm:Int}(h:fj t row Fm=false):bW t row Fm=none:=by unfold bW;rw[h];rfl
theorem nH{c:Nat}(h:fj t (r:Int) (c:Int)=true):bW t r c=iV t r c:=by unfold bW;rw[i7 h];rfl
theorem nG{c:Nat}(h:Lq (t.row r) (t.at r c)=none):iV t r c=none:=by unfold iV;rw[h];rfl
theorem qz{c:Nat}(h:Lq (t.row r) (t.at r c)=some main):iV t r c=(H9 t r c main (Lp t.rows)).map λrs=>⟨rs,t.basis.set r (c:Int),t.A'⟩:=by unfold iV;rw[h];rfl
theorem vN{c:Nat}(h:H9 t r c main k=none):∀{n:Nat},k<=n->H9 t r c main n=none
 | n,hn=>by
   obtain⟨d,rfl⟩:∃d,n=k+d:=⟨n-k,by omega⟩;clear hn
   induction d with
   | zero=>exact h
   | succ d ih=>show(H9 t r c main (k+d)).bind _=none;rw[ih];rfl
theorem vL{t:Tb}{r c:Nat}{main:o3}(hr:r<Lp t.rows):∀{k:Nat} {M:List (o3)},H9 t r c main k=some M->Lp M=Lp t.rows/\M[r]?.getD []=main
 | 0,M,h=>by
   simp only[H9,Pi]at h;subst h;exact⟨by simp,by rw[tu hr];rfl⟩
 | k+1,M,h=>by
   simp only[H9]at h;cases e:H9 t r c main k with
   | none=>rw[e]at h;cases h
   | some s0 =>
     rw[e]at h;simp only[kx]at h;have⟨K,H⟩:=vL hr e;unfold Yb at h
     split at h
     ·simp only[Pi]at h;subst h;exact⟨K,H⟩
     next hn =>
     rw[O0]at h;obtain⟨x,_,rfl⟩:=h;refine⟨by rw[km,K],?_⟩;rw[pk (λe=>hn (.inl e))];exact H
theorem vO{c:Nat}(h:H9 t r c main k=some M)(hs:k=r∨t.at k c=(0,1)):H9 t r c main (k+1)=some M:=by
 simp only[H9,h,kx,Yb,i7 hs]
theorem AM{c:Nat}(h:H9 t r c main k=some M)(hs:¬(k=r∨t.at k c=(0,1))):H9 t r c main (k+1)=(Iw (t.row k) (D2 (t.at k c)) main).map λx=>M.set k x:=by
 simp only[H9,h,kx,Yb,f8 hs]
theorem KG{r m:o3}{q:o8}(hm:Lp m=j)(H:j<Lp r):(m++r.drop j).set j q=(m++[q])++r.drop (j+1):=by
 rw[O' _ _ O,hm,R8,Xd H,Zq,vl];rfl
def VJ(w:J)(base:Nat)(e:Ending)(t:Tb)(ok:Bool):Prop:=∃va vb vs,e=atn (.tuple #[.agg #[va,vb,U t.A'],ato ok])/\GR w base va vb vs t
section
variable{w:J}{ra:o6}{rn rc:Nat}{ba:o6}{bn bc:Nat}{t:Tb}
theorem sO(h:QW w ra rn rc ba bn bc t)(Kk:rn<=100000)(OG:bn<=100000)(Nf:∀i,i<rn->Lp (t.row i)<=1048576)(row Fm:Int)(hno:fj t row Fm=false):
 Calls prog 331 #[Qk ra rn rc ba bn bc t.A',.int .i64 row,.int .i64 Fm] w λe w'=>VJ w' w e t false/\D4 w w':=by
 have B9:=(D4.alloc w (dh ra rn rc ba bn bc t.A')).trans (D4.alloc _ (SH #[FB none 0 0,FB none 0 0,.int .i64 0] 216));have⟨W,hW⟩:=j7 ((w.alloc (dh ra rn rc ba bn bc t.A')).alloc (SH #[FB none 0 0,FB none 0 0,.int .i64 0] 216));rw[<-hW]at B9;have B4:=I B9;have H:=I (h.ext B9);have HF:=I (ld H.o O);have HTP:=I (λok=>jb h ok);have HCL:=I (λ(w':J) (hx:D4 W w')=>mH (H.ext hx) O O Nf);have Gj:=I (show W.heap[w.heap.size+1]?=some (SH #[FB none 0 0,FB none 0 0,.int .i64 0] 216 (0,0))by rw[hW];exact LE j9);have K:=I (show W.heap[w.heap.size]?=some (SH #[FB ra rn rc,FB ba bn bc,.int .i64 t.A'] 216 (0,0))by rw[hW,wZ j9];exact LE rfl);have J':=I (show W.heap.size=w.heap.size+1+1 by rw[hW];simp);have FL:=h.rows.y7;have Hs:=h.rows.y8;obtain⟨rows,basis,x⟩:=t;have Jn:=I (show(JF ⟨rows,basis,x⟩&&(A8 row 0 ((rn:Int)-1)&&A8 Fm 0 (x+(rn:Int)-1)))=false by
  have:=hno;unfold fj at this;simp only at this;rw[h.rows.hlen]at this;exact this)
 clear h B9 Nf hno;show Calls _ _ #[Qk ra rn rc ba bn bc x,.int .i64 row,.int .i64 Fm] w _;cases D9:JF ⟨rows,basis,x⟩
 ·rw[D9]at HF;clear D9;go_in
  go_upto_region 1 with rfl;rw[<-hW];clear hW;have p0:=aw K.o;have p1:=aJ K.o;have p2:=aK K.o;go_wp2_with rfl;refine i6 HF λw1 hx=>?_;have Q:=I hx;clear hx p0 p1 p2;have p0:=aw (Q.blk K);have p1:=aJ (Q.blk K);have p2:=aK (Q.blk K);go_wp2_with rfl;refine(HCL _ Q).mono ?_;rintro e w2 ⟨⟨va,vb,vs,rfl,ho⟩,hx⟩;have Z:=I (Q.trans hx);have HO:=I ho;obtain⟨a7,n7,c7,rfl,Ma⟩:=ho.a.var;obtain⟨a8,n8,c8,rfl,OU⟩:=ho.b.var;have r0:=aw (Z.blk Gj);have r1:=aJ (Z.blk Gj);have r2:=aK (Z.blk Gj);have rf:=ee (Z.blk Gj);have hsz:=Q.size;have hww:=J'.o;clear hx ho p0 p1 p2;go_wp2;refine GE (v:=.tuple #[.agg #[FB a7 n7 c7,FB a8 n8 c8,.int .i64 x],ato false]) ZU rfl ⟨⟨_,_,vs,rfl,(HO.Hd λk hk=>dW _ _ _ _ _ _ O).mono O⟩,(B4.trans Z).Kf (bq _) _ _ _⟩
 rw[D9]at HF;obtain⟨m,RZ,hm,Pg,_,_⟩:=HTP.o D9;simp only at RZ;subst RZ Pg;refine Fn (show(A8 row 0 ((bn:Int)-1)&&A8 Fm 0 ((m:Int)+(bn:Int)-1))=false by have:=Jn.o;rw[D9]at this;simpa using this) (λw=>av row 0 ((bn:Int)-1) w) (λw=>av Fm 0 ((m:Int)+(bn:Int)-1) w) λahp Ml Ky=>?_;clear D9;cases FA:A8 row 0 ((bn:Int)-1)
 case' true =>
  have Lo:A8 Fm 0 ((m:Int)+(bn:Int)-1)=false:=by have:=ahp.o;rw[FA]at this;simpa using this
  simp only[Lo]at Ky;clear Lo
 all_goals
  simp only[FA]at Ml;clear FA;go_in
  go_upto_region 1 with rfl;rw[<-hW];clear hW;have p0:=aw K.o;have p1:=aJ K.o;have p2:=aK K.o;go_wp2_with rfl;refine i6 HF λw1 hx=>?_;have Q:=I hx;clear hx p0 p1 p2;have p0:=aw (Q.blk K);have p1:=aJ (Q.blk K);have p2:=aK (Q.blk K);go_wp2_with rfl;refine(Ml _).mono ?_;rintro e w1' ⟨rfl,rfl⟩;go_wp2_with rfl
 all_goals
  try(
   with_reducible refine(Ky.o _).mono ?_
   rintro e w1' ⟨rfl,rfl⟩;go_wp2_with rfl)
  refine(HCL _ Q).mono ?_;rintro e w2 ⟨⟨va,vb,vs,rfl,ho⟩,hx⟩;have Z:=I (Q.trans hx);have HO:=I ho;obtain⟨a7,n7,c7,rfl,Ma⟩:=ho.a.var;obtain⟨a8,n8,c8,rfl,OU⟩:=ho.b.var;have r0:=aw (Z.blk Gj);have r1:=aJ (Z.blk Gj);have r2:=aK (Z.blk Gj);have rf:=ee (Z.blk Gj);have hsz:=Q.size;have hww:=J'.o;clear hx ho p0 p1 p2;go_wp2;refine GE (v:=.tuple #[.agg #[FB a7 n7 c7,FB a8 n8 c8,.int .i64 (m:Int)],ato false]) ZU rfl ⟨⟨_,_,vs,rfl,(HO.Hd λk hk=>dW _ _ _ _ _ _ O).mono O⟩,(B4.trans Z).Kf (bq _) _ _ _⟩
end
section
variable{w:J}{ra:o6}{rn rc:Nat}{ba:o6}{bn bc:Nat}{t:Tb}
def X9(h:σ:=by
 have p0:=aw (xf.blk HTB);have p1:=aJ (xf.blk HTB);have p2:=aK (xf.blk HTB);have XF:=I xf;clear xf;go_wp2_with rfl;refine(HCL _ XF).mono ?_;rintro e w8 ⟨⟨va8,vb8,vs8,rfl,Kv⟩,hx⟩;have X8:=I (XF.trans hx);have Nt:=I Kv;obtain⟨a7,n7,c7,rfl,Ma⟩:=Kv.a.var;obtain⟨a8,n8,c8,rfl,OU⟩:=Kv.b.var;have r0:=aw (X8.blk Gj);have r1:=aJ (X8.blk Gj);have r2:=aK (X8.blk Gj);have rf:=ee (X8.blk Gj);have hsz:=XF.size;have hww:=J'.o;clear hx Kv p0 p1 p2;go_wp2;refine GE (v:=.tuple #[.agg #[FB a7 n7 c7,FB a8 n8 c8,U m],ato false]) ZU rfl ⟨?_,(B4.trans X8).Kf (bq _) _ _ _⟩;refine⟨FB a7 n7 c7,FB a8 n8 c8,vs8,?_,?_⟩
 ·unfold eB;rw[HN.o,Ss,Jz.o];rfl
 ·unfold eB;rw[HN.o,Ss];exact(Nt.Hd λk hk=>dW _ _ _ _ _ _ O).mono O
 ):σ:=h
def UT(h:σ:=by
 unfold eB;rw[HN.o,NE];exact(Hq.own.Hd λk hk=>dW _ _ _ _ _ _ O).mono O
 ):σ:=h
def A0(h:σ:=by
 rw[hGc k F4];have:k<vs2.length:=by rw[Pr.m.IZ];exact F4
 simp[this]
 ):σ:=h
theorem sP(h:QW w ra rn rc ba bn bc t)(Kk:rn<=100000)(OG:bn<=100000)(hval:∀i j,-9223372036854775807<=(t.at i j).1/\(t.at i j).1<=9223372036854775807)(row Fm:Int)(TK:fj t row Fm=true):
 Calls prog 331 #[Qk ra rn rc ba bn bc t.A',.int .i64 row,.int .i64 Fm] w λe w'=>VJ w' w e (eB t row Fm) (bW t row Fm).isSome/\D4 w w':=by
 have B9:=(D4.alloc w (dh ra rn rc ba bn bc t.A')).trans (D4.alloc _ (SH #[FB none 0 0,FB none 0 0,.int .i64 0] 216));have⟨W,hW⟩:=j7 ((w.alloc (dh ra rn rc ba bn bc t.A')).alloc (SH #[FB none 0 0,FB none 0 0,.int .i64 0] 216));rw[<-hW]at B9;have B4:=I B9;have H:=I (h.ext B9);have D9:JF t=true:=by unfold fj at TK;simp only[cM]at TK;exact TK.1
 have HF:=I (ld H.o O);rw[D9]at HF;have⟨m,RZ,hm,Pg,Vt,adf⟩:=jb h D9;subst Pg;have Nf:∀i,i<bn->Lp (t.row i)<=1048576:=λi hi=>by rw[Vt i hi];omega
 refine Op (λ(w':J) (hx:D4 W w')=>mH (H.ext hx) O O Nf) (show W.heap[w.heap.size+1]?=some (SH #[FB none 0 0,FB none 0 0,.int .i64 0] 216 (0,0))by rw[hW];exact LE j9) (show W.heap[w.heap.size]?=some (SH #[FB ra bn rc,FB ba bn bc,.int .i64 t.A'] 216 (0,0))by rw[hW,wZ j9];exact LE rfl) (show W.heap.size=w.heap.size+1+1 by rw[hW];simp) λHCL Gj HTB J'=>?_;have FL:=h.rows.y7;have Hs:=h.rows.y8;obtain⟨rows,basis,x⟩:=t;simp only at RZ;subst RZ;have GS:e9 (Lp rows=bn):=h.rows.hlen;have Hj:e9 (Lp basis=bn):=h.basis.hlen;have FA:A8 row 0 ((bn:Int)-1)=true/\A8 Fm 0 ((m:Int)+(bn:Int)-1)=true:=by
  have:=TK;unfold fj at this;simp only[cM]at this;rw[h.rows.hlen]at this;exact this.2
 obtain⟨ac8,Lo⟩:=FA;obtain⟨r,rfl⟩:∃r:Nat,row=r:=⟨row.toNat,by simp[A8]at ac8;omega⟩;obtain⟨c,rfl⟩:∃c:Nat,Fm=c:=⟨Fm.toNat,by simp[A8]at Lo;omega⟩;have Gv:r<bn:=by simp[A8]at ac8;omega
 have⟨u,hu⟩:=j7 (m+bn+1);have hcu:c<u:=by simp[A8]at Lo;omega
 have hub:u<=200000:=O;have Ml:=I (λw=>av (r:Int) 0 ((bn:Int)-1) w);have Ky:=I (λw=>av (c:Int) 0 ((m:Int)+(bn:Int)-1) w);simp only[ac8]at Ml;simp only[Lo]at Ky;have⟨T,hT⟩:=j7 (Tb.mk rows basis (m:Int));have GN:=I (show∀i,i<bn->Lp (T.row i)=u by rw[hT,hu];exact Vt);rw[<-hT]at TK;refine Fn (nH TK) (show T.rows=rows/\T.basis=basis/\T.A'=(m:Int)by rw[hT];exact⟨rfl,rfl,rfl⟩) (show∀i,T.row i=rows[i]?.getD []by intro i;rw[hT];rfl) λHYG Kr IE=>?_;rw[<-hT]at HCL;have HH:e9 (jx W ra bn rc rows):=H.rows;have Jz:=I (show T.A'=(m:Int)by rw[hT]);rw[<-hT]at hval;have HVAL:=I hval;clear hval;rw[Jz.o]at HCL;clear h B9 Nf TK ac8 Lo D9 Vt adf hu;have Zf:eB (Tb.mk rows basis (m:Int)) (r:Int) (c:Int)=eB T (r:Int) (c:Int)/\bW (Tb.mk rows basis (m:Int)) (r:Int) (c:Int)=bW T (r:Int) (c:Int):=by rw[hT];exact⟨rfl,rfl⟩
 rw[Zf.1,Zf.2];clear Zf hT;show Calls _ _ #[Qk ra bn rc ba bn bc (m:Int),.int .i64 (r:Int),.int .i64 (c:Int)] w _;have hrr:=SW r bn;have FH:=aE r
 go_in
 go_upto_region 1 with rfl;rw[<-hW];clear hW;have p0:=aw HTB.o;have p1:=aJ HTB.o;have p2:=aK HTB.o;go_wp2_with rfl;refine i6 HF λw1 hx=>?_;have X1:=I hx;clear hx p0 p1 p2;have p0:=aw (X1.blk HTB);have p1:=aJ (X1.blk HTB);have p2:=aK (X1.blk HTB);go_wp2_with rfl;refine(Ml _).mono ?_;rintro e w1' ⟨rfl,rfl⟩;go_wp2_with rfl;refine(Ky _).mono ?_;rintro e w1' ⟨rfl,rfl⟩;go_wp2_with rfl;refine(HCL _ X1).mono ?_;rintro e w2 ⟨⟨va,vb,vs,rfl,ho⟩,hx⟩;have X2:=I (X1.trans hx);obtain⟨aa,na,ca,rfl,U8⟩:=ho.a.var;obtain⟨ab,nb,cb,rfl,VT⟩:=ho.b.var;obtain rfl:na=bn:=by have h1:=ho.rows.len;have h2:=Kr.1;have h3:=GS.o;have h4:=U8.o;rw[h2]at h1;omega
 obtain rfl:nb=na:=by have h1:=VT.o;have h2:=Kr.2.1;have h3:=Hj.o;rw[h2]at h1;omega
 obtain⟨G,hG,_,_⟩:=ho.a.cell Gv;subst hG;obtain⟨B,hB,_,_,_⟩:=ho.b.block Gv;subst hB;have⟨E,hE⟩:=j7 (w2.alloc (SH #[FB (some ⟨G,0,none⟩) nb ca,FB (some ⟨B,0,none⟩) nb cb,.int .i64 (m:Int)] 216));have Ic:D4 w2 E:=by rw[hE];exact ZL
 have agt:w1.heap.size<=w2.heap.size:=hx.size;have HVS:=I (λi g' (hi:i<nb) (he:(vs[i]?.getD undef).ownBlock=some g')=>((ho.rows.row i (by rw[Kr.1,GS.o];exact hi)).lt g' he).2)
 have Wz:=I (show OO E w1 w2 G nb ca (FB (some ⟨B,0,none⟩) nb cb) (m:Int) vs rows basis from
  ⟨by rw[hE];exact LE rfl,agt,⟨ho.a.ext Ic,by have:=ho.rows.ext Ic;rw[Kr.1]at this;exact this⟩,by have:=ho.b.ext Ic;rw[Kr.2.1]at this;exact this⟩)
 have XE:=I (X2.trans Ic);have X1E:=I (hx.trans Ic);have Ze:w.heap.size+1+1<=w1.heap.size:=by have:=X1.size;have:=J'.o;omega
 have hsE:w1.heap.size<=E.heap.size:=l8 Ic.size;have HSE:=I Ic.size;clear ho p0 p1 p2 hx;go_upto_region 4 with rfl;rw[<-hE];clear hE Ic;have p0:=aw (XE.blk HTB);have⟨zb,Gd,za,zn,zc,Lf,YX,A4⟩:=HH.at Gv;subst Lf;have Vn:zn=u:=by rw[<-A4.hlen,<-IE.o];exact GN.o r Gv
 subst Vn;have hrc1:=A4.y7;have hrc2:=A4.y8;have Ja:=I (show i8 W za zn zc (T.row r)by rw[IE.o];exact A4);have HZW:=I YX;have⟨pb,TC,pp,pq,hpa,MF,NJ,OD⟩:=(Ja.ext XE).at hcu;subst hpa;have Hl:=XE.o9 HZW.o;have OS:e9 (T.at r c=(pp,pq)):=MF;have VX:=I (GN r Gv);have hcc:=SW c zn;have Fo:=aE c;clear MF A4 YX;have⟨E2,hE2⟩:=j7 (E.alloc (SH #[.int .i64 pp,.int .i64 pq] 80));have afM:D4 E E2:=by rw[hE2];exact ZL
 have hsE2:E2.heap.size=E.heap.size+1:=by rw[hE2];simp
 refine Fn (Wz.ext afM) (show E2.heap[E.heap.size]?=some (SH #[.int .i64 pp,.int .i64 pq] 80 (0,0))by rw[hE2];exact LE rfl) (X1E.trans afM) λHM1 HPB agU=>?_;have hw2E:w2.heap.size<=E.heap.size:=HSE.o;go_upto_region 5 with rfl;rw[<-hE2];clear hE2 afM p0 Hl NJ OD hsE2;have p0:=aw ((X1.trans agU).blk HTB);have Hl:=(X1.trans agU).o9 HZW.o;go_wp2
 go_loopg [60] zn (λgk ii wr=>∃(k:Nat) (mm:o3),e9 (gk+k=zn)/\ii=.int .i64 (k:Int)/\e9 (Nm (PY (T.row r) (T.at r c)) k=some mm)/\e9 (OO wr w1 w2 G nb ca (FB (some ⟨B,0,none⟩) nb cb) (m:Int) vs (rows.set r (mm++(T.row r).drop k)) basis)/\e9 (D4 w1 wr)/\e9 (wr.heap[E.heap.size]?=some (SH #[.int .i64 pp,.int .i64 pq] 80 (0,0))))
 case atStart =>
  refine⟨0,[],I O,rfl,I rfl,I ?_,agU,HPB⟩;have h1:=HM1.o;have h2:rows.set r ([]++(T.row r).drop 0)=rows:=by
   rw[Nl,List.drop_zero,IE.o];refine ub λi=>?_;by_cases hir:r=i
   ·subst hir;rw[tu (by rw[GS.o];exact Gv),In (by rw[GS.o];exact Gv)];rfl
   rw[pk hir]
  rw[h2];exact h1
 rename Nat=>g1;rename J=>A1;obtain⟨k,mm,HK,rfl,MQ,HT,HX,HP⟩:=hrel;clear p0 Hl;have hsr:=HX.size;have MG:=IO HP.o;by_cases hlt:k<zn
 ·have⟨xb,Py,ex,ey,TN,hxv,B9,B0⟩:=(Ja.ext (X1.trans HX)).at hlt;simp only[Pi,gl,gi]at TN;obtain⟨rfl,rfl⟩:=TN;have HXV:=I hxv;have q0:A1.cell? ⟨E,0,none⟩=some (.int .i64 pp):=(bO HP).1;have q1:A1.cell? ⟨E,1,none⟩=some (.int .i64 pq):=(bO HP).2.1;obtain⟨d1,d2,OL,hdd⟩:∃x y ok,Hu (ex,ey) (pp,pq)=((x,y),ok):=⟨_,_,_,rfl⟩;have V3:=I (show PY (T.row r) (T.at r c) k=if OL=true then some (d1,d2) else none by unfold PY;rw[HXV.o,OS.o,hdd]);have SZ:=I (λw=>xE ex ey pp pq w);simp only[hdd]at SZ;clear hxv hdd;go_wp2_with rfl;refine i6 (SZ _) λw5 hx=>?_;have X5:=I ((D4.alloc A1 (SH #[.int .i64 ex,.int .i64 ey] 80)).trans hx);have X6:=I (X5.trans (D4.alloc w5 (SH #[.int .i64 d1,.int .i64 d2] 80)));have MD:=X5.size;clear hx q0 q1;have⟨E5,Z⟩:=j7 (w5.alloc (SH #[.int .i64 d1,.int .i64 d2] 80));have HQ:=I (show E5.heap[w5.heap.size]?=some (SH #[.int .i64 d1,.int .i64 d2] 80 (0,0))by rw[Z];exact LE rfl);rw[<-Z]at X6;cases OL
  ·have HN:=I (show bW T (r:Int) (c:Int)=none by
    rw[HYG.o];refine nG ?_;unfold Lq;rw[VX.o];exact fB MQ.o (by rw[V3.o];rfl) hlt)
   go_upto_region 10 with rfl;rw[<-Z];clear Z;have xf:=((X1.trans HX).trans X6);exact X9
  go_upto_region 11 with rfl;rw[<-Z];clear Z;refine Op (eg (x:=(d1,d2)) MQ.o (by rw[V3.o];rfl)) (cZ MQ) (HT.ext X6) (show(rows.set r (mm++(T.row r).drop k))[r]?.getD []=mm++(T.row r).drop k by rw[tu (by rw[GS.o];exact Gv)];rfl) λOV OW L7 aaG=>?_;have Gq:=I (show(mm++(T.row r).drop k).length=zn by rw[ar,C3,OW.o,VX.o];omega);obtain⟨rg,rcap,S',hcr,TV,_,hbg,LW,FQ,IH⟩:=L7.m.row Gv (n:=zn) (by rw[aaG.o,Gq.o]) O;obtain⟨rg',_,_,_,he',_,ho0,TZ⟩:=TV.rats.at hlt;simp only[Pi,gl,gi]at he';obtain⟨rfl,rfl⟩:=he';obtain⟨rg',he',_,NO,_⟩:=TV.block hlt;simp only[Pi,gl,gi]at he';subst he';have c8:=L7.c0;have q0:E5.cell? ⟨w5,0,none⟩=some (.int .i64 d1):=(bO HQ).1;have q1:E5.cell? ⟨w5,1,none⟩=some (.int .i64 d2):=(bO HQ).2.1;have MI:=aE k
  have Ij:=SW k zn;have HVR:=I S';have hrgE:rg≠E.heap.size:=by have:=HVS.o r rg Gv (by rw[HVR.o];rfl);omega
  have NZ:=I hrgE;clear S' TV hrgE;rw[fs]at ho0 TZ
  go_still_tail 8,k8
  have U6:=I (show OO ((E5.drew.setCell ⟨rg,k*2,none⟩ (.int .i64 d1)).setCell ⟨rg,k*2+1,none⟩ (.int .i64 d2)) w1 w2 G nb ca (FB (some ⟨B,0,none⟩) nb cb) (m:Int) vs (rows.set r ((mm++[(d1,d2)])++(T.row r).drop (k+1))) basis by
   have h1:=(L7.ext (D4.drew E5)).N9 Gv HVR.o (j:=k) (by rw[aaG.o,Gq.o];exact hlt) d1 d2;rw[aaG.o,List.set_set,KG OW.o (by rw[VX.o];exact hlt)]at h1
   exact h1)
  have Hg:=I (((HX.trans (X6.trans (D4.drew E5))).setCell (p:=⟨rg,k*2,none⟩) hbg (.int .i64 d1)).setCell (p:=⟨rg,k*2+1,none⟩) hbg (.int .i64 d2));have Ps:=I (show((E5.drew.setCell ⟨rg,k*2,none⟩ (.int .i64 d1)).setCell ⟨rg,k*2+1,none⟩ (.int .i64 d2)).heap[E.heap.size]?=some (SH #[.int .i64 pp,.int .i64 pq] 80 (0,0))by
   rw[If _ _ _ _ NZ.symm,If _ _ _ _ NZ.symm];exact(X6.trans (D4.drew E5)).blk HP)
  go_wp2_with rfl;refine gy ?_;exact⟨k+1,mm++[(d1,d2)],I (l8 HK.o),by go_num,OV,U6,Hg,Ps⟩
 have E':zn=k:=l8 HK.o;subst E';have N4:=I (show Lq (T.row r) (T.at r c)=some mm by unfold Lq;rw[VX.o];exact MQ)
 have HPG:=I (show bW T (r:Int) (c:Int)=(H9 T r c mm nb).map λrs=>⟨rs,basis.set r (c:Int),(m:Int)⟩by
  rw[HYG.o,qz N4.o,Kr.1,GS.o,Kr.2.1,Jz.o])
 have SN:=I (show OO A1 w1 w2 G nb ca (FB (some ⟨B,0,none⟩) nb cb) (m:Int) vs (rows.set r mm) basis by
  have h1:=HT.o;rw[Ks (by rw[VX.o];exact m9 _),D0]at h1;exact h1)
 have p0:=aw ((X1.trans HX).blk HTB);clear MG;go_wp2
 go_loopg [87] nb (λgk ii wr=>∃(k:Nat) (vs2:List atY) (M:List (o3)),e9 (gk+k=nb)/\ii=.int .i64 (k:Int)/\e9 (H9 T r c mm k=some M)/\e9 (OO wr w1 w2 G nb ca (FB (some ⟨B,0,none⟩) nb cb) (m:Int) vs2 M basis)/\e9 (D4 w1 wr))
 ·exact⟨0,vs,rows.set r mm,I O,rfl,I (by simp only[H9,Kr.1]),SN,HX⟩
 obtain⟨k,vs2,M,Q3,rfl,M0,GJ,C7⟩:=hrel;clear p0;have hsr2:=C7.size;by_cases F4:k<nb
 ·have⟨zb2,aiP,ya,yn,yc,YW,hzk,Lj⟩:=(HH.ext (X1.trans C7)).at F4;simp only[Pi,gl,gi]at YW;obtain⟨rfl,rfl⟩:=YW;obtain rfl:yn=zn:=by rw[<-Lj.hlen,<-IE.o,<-VX.o,GN.o k F4,GN.o r Gv]
  have Wy:=I (show i8 wr ya yn yc (T.row k)by rw[IE.o];exact Lj);have⟨yb,F3,p,q,MT,Fw,JB,F7⟩:=Wy.at hcu;subst MT;have Gi:e9 (T.at k c=(p,q)):=Fw;have hyk1:=Lj.y7;have hyk2:=Lj.y8;clear Fw Lj;have Nr:=I (show decide (k=r∨T.at k c=(0,1))=(decide (k=r)||((p == 0)&&(q == 1)))by rw[Gi.o,uu];simp);go_upto_region 16 with rfl
  go_cut [102] (λafu wx=>afu=ato (decide (k=r∨T.at k c=(0,1)))/\e9 (D4 wr wx))
  case first =>
   have r7:=D4.drew wr;by_cases hkr:k=r
   ·have heq:((k:Int) == (r:Int))=true:=by simp;omega
    have HE9:=I (show decide (k=r∨T.at k c=(0,1))=true by rw[Nr.o,bl hkr];rfl);clear hkr;refine k6 (S:=(λw'=>w'.cell? ⟨yb,F3+c*2,none⟩=some (.int .i64 p)/\w'.cell? ⟨yb,F3+c*2+1,none⟩=some (.int .i64 q)/\D4 wr w')) k8 ?_ (λr9=>?_)
    ·exact⟨r7.o9 JB,r7.o9 F7,r7⟩
    refine ks ⟨?_⟩;refine Mp ⟨?_⟩;refine tk 7 ?_;refine tk 8 ?_;refine tk 9 ?_;refine tk 10 ?_;refine ST k8 ?_ _;go_wp2;go_meet;exact⟨by rw[HE9.o],I r7⟩
   have heq:((k:Int) == (r:Int))=false:=t8;have HE9:=I (show decide (k=r∨T.at k c=(0,1))=((p == 0)&&(q == 1))by rw[Nr.o,RK hkr];rfl);clear hkr;cases h1:(p == 0)
   all_goals
    cases h2:(q == 1)
   all_goals
    have HE8:=I HE9.o;rw[h1,h2]at HE8;refine k6 (S:=(λw'=>w'.cell? ⟨yb,F3+c*2,none⟩=some (.int .i64 p)/\w'.cell? ⟨yb,F3+c*2+1,none⟩=some (.int .i64 q)/\D4 wr w')) k8 ?_ (λr9=>?_)
    ·exact⟨r7.o9 JB,r7.o9 F7,r7⟩
    refine ks ⟨?_⟩;refine Mp ⟨?_⟩;refine tk 7 ?_;refine rd 8 λK hK=>?_;go_simp
    (go_at_call 128;refine i6 (cW _ _) λw3 C0=>?_;have r7:=r7.trans C0)
    go_wp2_with rfl;refine KO (an (r7.o9 JB) (an (r7.o9 F7) r7)) λr9=>?_;refine tk 9 ?_;refine tk 10 ?_;refine ST k8 ?_ _;go_wp2;go_meet;exact⟨by rw[HE8.o];rfl,I r7⟩
  obtain⟨rfl,LF⟩:=hcut;refine Fn (GJ.ext LF) (C7.trans LF) (Wy.ext LF) λGU C5 ahd=>?_;replace JB:=LF.o9 JB;replace F7:=LF.o9 F7;clear hzk;cases hsk:decide (k=r∨T.at k c=(0,1))
  ·have HNS:=I (V5 hsk);clear hsk;have HPM:=I (vL (t:=T) (by rw[Kr.1,GS.o];exact Gv) M0);obtain⟨mg,Gl,hvm,Nx,hom,_,_,_,hmc1,hmc2⟩:=GU.m.row Gv (n:=Lp mm) (by rw[HPM.2]) (by rw[cZ MQ.o];omega);rw[HPM.2]at hom;have OT:=I hom.rats;have HML:=I (cZ MQ);have⟨mn,hmn⟩:=j7 (Lp mm);rw[<-hmn]at Nx OT HML;have hmn2:mn<=200000:=by have:=HML.o;omega
   have c8:=GU.c0;have NJ:-9223372036854775807<=p:=by have:=HVAL.o k c;rw[Gi.o]at this;exact this.1
   have OD:p<=9223372036854775807:=by have:=HVAL.o k c;rw[Gi.o]at this;exact this.2
   have HSC:=I (λ(wz:J) (z1:o6) (z2 z3:Nat) (z4:o6) (z5 z6:Nat) (h1:i8 wz z1 z2 z3 (T.row k)) (h2:i8 wz z4 z5 z6 mm) (h3:z2<=1048576)=>qq (k1:=-p) (k2:=q) h1 h2 h3);have⟨sv,Od⟩:=j7 (Iw (T.row k) (-p,q) mm);have GG:=I (show H9 T r c mm (k+1)=sv.map λx=>M.set k x by rw[Od,AM M0.o HNS.o,Gi.o];rfl);simp only[<-Od]at HSC;clear Od hvm hom hmn;go_upto_region 17 with rfl;have r7:=D4.drew wc;have Fu:=r7;have r8:=I (λ(w':J) (h:D4 wc w')=>(an (h.o9 JB) (an (h.o9 F7) (an (h.o9 c8) (an (h.o9 Nx) h)))))
   go_region_held3 (λw'=>w'.cell? ⟨yb,F3+c*2,none⟩=some (.int .i64 p)/\w'.cell? ⟨yb,F3+c*2+1,none⟩=some (.int .i64 q)/\w'.cell? ⟨w2,0,none⟩=some (FB (some ⟨G,0,none⟩) nb ca)/\w'.cell? ⟨G,r,none⟩=some (FB (some ⟨mg,0,none⟩) mn Gl)/\D4 wc w')
    (with_reducible exact r8.o _ r7)
    (first
      | ((with_reducible refine(fc p q _ NJ OD).mono ?_)
         rintro e w3 ⟨rfl,D3⟩;have r7:D4 wc w3:=r7.trans D3;have Ra:=r7.size)
      | ((with_reducible refine(HSC.o _ _ _ _ _ _ _ (ahd.o.ext BB) (OT.o.ext BB) O).mono ?_)
         rintro e w4 ⟨⟨v4,rfl,Jd⟩,E7⟩;have hs4':=r7.size;obtain⟨a4,n4,c4,rfl,Qq⟩:=Jd.var;have r7:D4 wc w4:=r7.trans E7;have UL:=r7.size))
   clear Fu;refine Op (C5.trans r7) (GU.ext r7) (Jd.mono hs4') r7 λIo Pr Gh HK4=>?_;clear r7 Jd JB F7 c8 Nx;cases sv with
   | none =>
     have HN:=I (show bW T (r:Int) (c:Int)=none by rw[HPG.o,vN (k:=k+1) (by rw[GG.o];rfl) F4];rfl);have xf:=(X1.trans Io);exact X9
   | some nr =>
     have c8:=Pr.c0;have⟨G',JL,OH,hGc⟩:=Pr.m.own.cell F4;simp only[Pi,gl,gi]at JL;subst JL;have Ti:w4.cell? ⟨G,k,none⟩=some (vs2[k]?.getD undef):=by
      exact A0
     obtain⟨G',JL,_,_,NO⟩:=Pr.m.outer O;simp only[Pi,gl,gi]at JL;subst JL;refine Fn (GU.put HK4.o (l8 C5.size) Gh.o F4) (Io.setCell (p:=⟨G,k,none⟩) OH (FB a4 n4 c4)) (show H9 T r c mm (k+1)=some (M.set k nr)by rw[GG.o];rfl) λL7 Hh HP5=>?_;clear hGc;go_wp2_with rfl;refine SD ?_;exact⟨k+1,_,_,I (l8 Q3.o),by go_num,HP5,L7,Hh⟩
  have JE:=I (vO M0.o (nR hsk));clear hsk;go_wp2_with rfl;refine SD ?_;exact⟨k+1,vs2,M,I (l8 Q3.o),by go_num,JE,GU,C5⟩
 have E':nb=k:=l8 Q3.o;subst E';have HN:=I (show bW T (r:Int) (c:Int)=some ⟨M,basis.set r (c:Int),(m:Int)⟩by rw[HPG.o,M0.o];rfl);have c81:=aJ GJ.box;have⟨B',off',ZS,VE⟩:=GJ.b.ints.at Gv;simp only[Pi,gl,gi]at ZS;obtain⟨rfl,rfl⟩:=ZS;obtain⟨B',ZS,hbB,hbf,_⟩:=GJ.b.block Gv;simp only[Pi,gl,gi]at ZS;subst ZS;rw[fs]at VE;have Hq:=I (GJ.putB r (c:Int));have Kq:=I (C7.setCell (p:=⟨B,r,none⟩) hbB (.int .i64 (c:Int)));go_upto_region 23 with rfl;have⟨W9,J6⟩:=j7 (wr.setCell ⟨B,r,none⟩ (.int .i64 (c:Int)));rw[<-J6]at Hq Kq⊢;clear J6 c81 VE hbf;have r0:=aw ((X1.trans Kq).blk Gj);have r1:=aJ ((X1.trans Kq).blk Gj);have r2:=aK ((X1.trans Kq).blk Gj);have rf:=ee ((X1.trans Kq).blk Gj);have t0:=aw Hq.box;have t1:=aJ Hq.box;have t2:=aK Hq.box;go_wp2;refine GE (v:=.tuple #[.agg #[FB (some ⟨G,0,none⟩) nb ca,FB (some ⟨B,0,none⟩) nb cb,.int .i64 (m:Int)],ato true]) ZU rfl ⟨?_,((B4.trans X1).trans Kq).Kf (bq _) _ _ _⟩;refine⟨FB (some ⟨G,0,none⟩) nb ca,FB (some ⟨B,0,none⟩) nb cb,vs2,?_,?_⟩
 ·unfold eB;rw[HN.o,NE];rfl
 exact UT
theorem uk(h:QW w ra rn rc ba bn bc t)(Z:rn<=100000)(Q:bn<=100000)(Nf:∀i,i<rn->Lp (t.row i)<=1048576)(H:∀i j,-9223372036854775807<=(t.at i j).1/\(t.at i j).1<=9223372036854775807)(row Fm:Int):
 Calls prog 331 #[Qk ra rn rc ba bn bc t.A',U row,U Fm] w λe w'=>VJ w' w e (eB t row Fm) (bW t row Fm).isSome/\D4 w w':=by
 cases K:fj t row Fm
 ·have e:=Ev K;unfold eB;rw[e];exact sO h Z Q Nf row Fm K
 exact sP h Z Q H row Fm K
end
end
section
variable{S n m:Nat}{w w':J}{a:o6}{t:Tb}{T0:Nat->Nat->Rat}{cost cs:o3}
structure aR(S:Nat)(w w':J):Prop where
 os:w'.os=w.os
 tape:w'.tape=w.tape
 output:w'.output=w.output
 size:w.heap.size<=w'.heap.size
 block:∀k,k<w.heap.size->k≠S->w'.heap[k]?=w.heap[k]?
theorem aR.refl(S:Nat)(w:J):aR S w w:=⟨rfl,rfl,rfl,m9 _,λ_ _ _=>rfl⟩
theorem aR.of(h:D4 w w'):aR S w w':=⟨h.os,h.tape,h.output,h.size,λk H _=>h.block k H⟩
theorem aR.trans{a b c:J}(h:aR S a b)(k:aR S b c):aR S a c :=
 ⟨k.os.trans h.os,k.tape.trans h.tape,k.output.trans h.output,bR h.size k.size,λi hi H=>(k.block i (C' hi h.size) H).trans (h.block i hi H)⟩
theorem aR.set(S:Nat)(w:J)(k:Nat)(v:atY):aR S w (w.setCell (IM S k) v):=by
 have h:=(Y' S w).setCell (p:=(IM S k)) (m9 S) v;exact⟨h.os,h.tape,h.output,h.size,λi _ H=>If _ _ _ _ H⟩
theorem AA{S:Nat}{w:J}{k:Nat}{v:atY}:aR S w (w.setCell (IM S k) v):=aR.set S w k v
theorem aR.ext{w0:J}(h:aR S w w')(hx:D4 w0 w)(hs:w0.heap.size<=S):D4 w0 w' :=
 ⟨h.os.trans hx.os,h.tape.trans hx.tape,h.output.trans hx.output,bR hx.size h.size,λk H=>(h.block k (C' H hx.size) O).trans (hx.block k H)⟩
structure eA(w:J)(S:Nat)(ra:o6)(rn rc:Nat)(ba:o6)(bn bc:Nat)(vs:List atY)(t:Tb)(n:Nat)(f:Bool):Prop where
 box:w.heap[S]?=some (SH #[FB ra rn rc,FB ba bn bc,U t.A',U n,ato f] 236 (0,0))
 tb:GR w 0 (FB ra rn rc) (FB ba bn bc) vs t
theorem GR.Xi{base k:Nat}{H vb:atY}{vs:List atY}{c:Array atY}{z:Nat×Nat}{v:atY}(h:GR w base H vb vs t)(hb:w.heap[S]?=some (SH c 236 z)):GR (w.setCell (IM S k) v) base H vb vs t :=
 ⟨bg h.a hb FS,⟨h.rows.len,λi hi=>bg (h.rows.row i hi) hb FS,h.rows.apart⟩,bg h.b hb FS⟩
section
variable{w:J}{S:Nat}{ra:o6}{rn rc:Nat}{ba:o6}{bn bc:Nat}{vs:List atY}{t:Tb}{n:Nat}{f:Bool}
theorem eA.ext{w':J}(h:eA w S ra rn rc ba bn bc vs t n f)(hx:D4 w w'):eA w' S ra rn rc ba bn bc vs t n f:=⟨(hx.block _ (IO h.box)).trans h.box,h.tb.ext hx⟩
theorem eA.cells(h:eA w S ra rn rc ba bn bc vs t n f):w.cell? (IM S 0)=some (FB ra rn rc)/\w.cell? (IM S 1)=some (FB ba bn bc)/\w.cell? (IM S 2)=some (U t.A')/\w.cell? (IM S 3)=some (U n)/\w.cell? (IM S 4)=some (ato f)/\∀k,w.frozen? (IM S k)=false:=by
 have hb:=h.box;refine⟨?_,?_,?_,?_,?_,λk=>fy w S k _ _ hb⟩<;>rw[UV w S _ _ _ _ hb]<;>rfl
theorem eA.fail(h:eA w S ra rn rc ba bn bc vs t n f):eA (w.setCell (IM S 4) (ato true)) S ra rn rc ba bn bc vs t n true :=
 ⟨aM w S 4 _ _ (ato true) h.box,h.tb.Xi h.box⟩
theorem eA.step(h:eA w S ra rn rc ba bn bc vs t n f){TB:o6}{TA H:Nat}{Z:o6}{Ud K:Nat}{vs':List atY}{t':Tb}(ho:GR w 0 (FB TB TA H) (FB Z Ud K) vs' t'):
 eA ((((w.setCell (IM S 0) (FB TB TA H)).setCell (IM S 1) (FB Z Ud K)).setCell (IM S 2) (U t'.A')).setCell (IM S 3) (U ((n:Int)+1))) S TB TA H Z Ud K vs' t' (n+1) f:=by
 have b1:=aM w S 0 _ _ (FB TB TA H) h.box;have b2:=aM _ S 1 _ _ (FB Z Ud K) b1;have b3:=aM _ S 2 _ _ (U t'.A') b2;have b4:=aM _ S 3 _ _ (U ((n:Int)+1)) b3;refine⟨?_,(((ho.Xi h.box).Xi b1).Xi b2).Xi b3⟩;rw[b4];have:((n+1:Nat):Int)=(n:Int)+1:=j9;rw[this];rfl
end
theorem ZM.mod{b:Nat}{v:atY}{l:o3}(h:ZM w b v l)(hm:aR S w w'){c:Array atY}{z:Nat×Nat}(hb:w.heap[S]?=some (SH c 236 z)):ZM w' b v l :=
 h.keep λk hk=>hm.block k (h.lt k hk).2 λe=>(aq h hb FS) N3
def N5(S:Nat)(w w':J)(o:Option (Tb×Nat)):Prop :=
 aR S w w'/\∃ra rn rc ba bn bc vs,match o with
  | some (t,n)=>eA w' S ra rn rc ba bn bc vs t n false
  | none=>∃t n,eA w' S ra rn rc ba bn bc vs t n true
def Jp(t:Tb)(n:Nat)(row Fm:Int):Option (Tb×Nat):=if n=1000 then none else(bW t row Fm).map λt'=>(t',n+1)
theorem Gy.bounds(h:Gy n m T0 t):(∀i,i<m->Lp (t.row i)=n+m+1)/\∀i j,-9223372036854775807<=(t.at i j).1/\(t.at i j).1<=9223372036854775807:=by
 refine⟨λi hi=>(h.row i hi).1,λi j=>?_⟩;by_cases hi:i<m
 ·by_cases H:j<n+m+1
  ·have:=aV ((h.row i hi).2 j H);unfold Tb.at;omega
  unfold Tb.at;rw[mq (by rw[(h.row i hi).1];omega)];simp
 unfold Tb.at Tb.row;rw[mq (l:=t.rows) Sr];simp
section
variable{w:J}{S:Nat}{ra:o6}{rn rc:Nat}{ba:o6}{bn bc:Nat}{vs:List atY}{t:Tb}{n:Nat}
def P9(h:σ:=by
 go_in
 go_wp2;refine GE (Q8 rfl _ _ _) rfl ⟨rfl,AA,?_⟩;rw[HP.o];exact⟨_,_,_,_,_,_,_,_,_,H.fail⟩
 ):σ:=h
theorem Aw(h:eA w S ra rn rc ba bn bc vs t n false){N m:Nat}{T0:Nat->Nat->Rat}(hT:Gy N m T0 t)(hN:N<=1000)(hm:m<=1000)(hn:n<=1000)(row Fm:Int):
 Calls prog 277 #[ats (some (IM S 0)),U row,U Fm] w λe w'=>e=atn (.tuple #[])/\N5 S w w' (Jp t n row Fm):=by
 have hlt:=IO h.box;have⟨c0,c1,c2,c3,c4,cf⟩:=h.cells;have H:=I h;by_cases QN:n=1000
 ·subst QN;have HP:=I (show Jp t 1000 row Fm=none by unfold Jp;rw[i7 rfl]);clear h;exact P9
 have UO:((n:Int) == 1000)=false:=t8;have Ht:n<1000:=O;have Kk:rn=m:=by rw[<-h.tb.Ku.rows.hlen,hT.len]
 have OG:bn=m:=by rw[<-h.tb.Ku.basis.hlen,hT.KN]
 have OS:=I (uk h.tb.Ku O O (λi hi=>by rw[hT.bounds.1 i O];omega) hT.bounds.2 row Fm);have HP:=I (show Jp t n row Fm=(bW t row Fm).map λt'=>(t',n+1)by unfold Jp;rw[f8 QN]);clear h hT QN Kk OG;unfold VJ eB at OS;cases hp:bW t row Fm with
 | none =>
   rw[hp]at OS HP;go_in
   go_wp2_with rfl;refine OS.mono ?_;simp only[Ss,L'];rintro e K ⟨⟨va,vb,Q,rfl,ho⟩,hx⟩;obtain⟨a7,n7,c7,rfl,Ma⟩:=ho.a.var;obtain⟨a8,Z,c8,rfl,OU⟩:=ho.b.var;have⟨E1,SK⟩:=j7 (K.alloc (SH #[FB a7 n7 c7,FB a8 Z c8,U t.A'] 216));refine Fn (show D4 w E1 by rw[SK];exact hx.trans ZL) (show GR E1 0 (FB a7 n7 c7) (FB a8 Z c8) Q t by rw[SK];exact(ho.ext ZL).mono (ef _)) (show E1.heap[K.heap.size]?=some (SH #[FB a7 n7 c7,FB a8 Z c8,U t.A'] 216 (0,0))by rw[SK];exact LE rfl) λX1 HO Ga=>?_;have HS:=I (H.ext X1);go_upto_region 3 with rfl;rw[<-SK];clear SK ho hx c0 c1 c2 c3 c4 cf;have⟨c0,c1,c2,c3,c4,cf⟩:=HS.cells;have⟨b0,b1,b2⟩:=mc Ga.o;have F4:=IO Ga.o;have hne:K.heap.size≠S:=λe=>mC Ga.o HS.box FS e
   go_wp2;refine GE (Q8 rfl _ _ _) rfl ⟨rfl,(aR.of X1).trans AA,?_⟩;rw[HP.o];exact⟨_,_,_,_,_,_,_,_,_,HS.fail⟩
 | some t' =>
   rw[hp]at OS HP;go_in
   go_wp2_with rfl;refine OS.mono ?_;simp only[NE,YO];rintro e K ⟨⟨va,vb,Q,rfl,ho⟩,hx⟩;obtain⟨a7,n7,c7,rfl,Ma⟩:=ho.a.var;obtain⟨a8,Z,c8,rfl,OU⟩:=ho.b.var;have⟨E1,SK⟩:=j7 (K.alloc (SH #[FB a7 n7 c7,FB a8 Z c8,U t'.A'] 216));refine Fn (show D4 w E1 by rw[SK];exact hx.trans ZL) (show GR E1 0 (FB a7 n7 c7) (FB a8 Z c8) Q t' by rw[SK];exact(ho.ext ZL).mono (ef _)) (show E1.heap[K.heap.size]?=some (SH #[FB a7 n7 c7,FB a8 Z c8,U t'.A'] 216 (0,0))by rw[SK];exact LE rfl) λX1 HO Ga=>?_;have HS:=I (H.ext X1);go_upto_region 3 with rfl;rw[<-SK];clear SK ho hx c0 c1 c2 c3 c4 cf;have⟨c0,c1,c2,c3,c4,cf⟩:=HS.cells;have⟨b0,b1,b2⟩:=mc Ga.o;have F4:=IO Ga.o;have hne:K.heap.size≠S:=λe=>mC Ga.o HS.box FS e
   go_wp2_with rfl;refine al (Q8 rfl _ _ _) rfl ⟨rfl,(aR.of X1).trans (((AA.trans AA).trans AA).trans AA),?_⟩;rw[HP.o];exact⟨_,_,_,_,_,_,_,HS.step HO.o⟩
end
theorem sY(f:Nat)(h:dE t cost=none):bD cost f t=none:=by unfold bD;rw[h]
theorem qw(f:Nat)(h:dE t cost=some cs)(H:bQ cs t.A'<0):bD cost f t=some ⟨t,f,cs,-1⟩:=by unfold bD;rw[h];simp only[H,G6]
theorem qx(f:Nat)(h:dE t cost=some cs)(K:¬bQ cs t.A'<0)(H:dN t (bQ cs t.A')<0):bD cost f t=some ⟨t,f,cs,bQ cs t.A'⟩:=by
 unfold bD;rw[h];simp only[K,H,G6,j']
theorem qy(hn:n<=1000)(h:dE t cost=some cs)(K:¬bQ cs t.A'<0)(H:¬dN t (bQ cs t.A')<0):
 bD cost (1000-n) t=(Jp t n (dN t (bQ cs t.A')) (bQ cs t.A')).bind λs=>bD cost (1000-s.2) s.1:=by
 unfold Jp;by_cases Q:n=1000
 ·subst Q;unfold bD;rw[h];simp only[K,H,j',G6];rfl
 rw[f8 Q];obtain⟨f,Z⟩:∃f,1000-n=f+1:=⟨999-n,by omega⟩;rw[Z];have e:1000-(n+1)=f:=O
 conv=>lhs;unfold bD
 rw[h];simp only[K,H,j'];cases bW t (dN t (bQ cs t.A')) (bQ cs t.A')with
 | none=>rfl
 | some t'=>simp only[tv,kx,e]
def SB(S:Nat)(w:J)(e:Ending)(w':J)(o:Option Ph):Prop :=
 aR S w w'/\∃ra rn rc ba bn bc vs,match o with
  | some p=>∃v,e=atn (.tuple #[v,U p.Fm])/\ZM w' w v p.costs/\eA w' S ra rn rc ba bn bc vs p.t (1000-p.left) false
  | none=>∃v Fm t n,e=atn (.tuple #[v,U Fm])/\eA w' S ra rn rc ba bn bc vs t n true
structure SV(w wr:J)(S:Nat)(N m:Nat)(T0:Nat->Nat->Rat)(cost:o3)(o:Option Ph)(gk:Nat)(nn:Nat)(f:Bool)(tt:Tb)(ra:o6)(rn rc:Nat)(ba:o6)(bn bc:Nat)(vs:List atY):Prop where
 meas:gk=if f=true then 0 else 2*(1000-nn)+1
 mod:aR S w wr
 st:eA wr S ra rn rc ba bn bc vs tt nn f
 go:f=false->Gy N m T0 tt/\nn<=1000/\bD cost (1000-nn) tt=o
 no:f=true->o=none
section
variable{w:J}{S:Nat}{ra:o6}{rn rc:Nat}{ba:o6}{bn bc:Nat}{vs:List atY}{t:Tb}{n:Nat}
def Od(h:σ:=by
 unfold Jp at Mi;split at Mi
 ·cases Mi
 ·rw[O0]at Mi;obtain⟨t6,h6,h7⟩:=Mi;simp only[sj]at h7;obtain⟨rfl,rfl⟩:=h7;exact⟨rfl,by omega,h6⟩
 ):σ:=h
def J4(h:σ:=by
 go_wp2;go_ret2;refine⟨M3,?_⟩;rw[HO.o];exact⟨_,_,_,_,_,_,_,_,rfl,Gh,by rw[show 1000-(1000-nn)=nn by omega];exact Qy⟩
 ):σ:=h
def Mr(h:σ:=by
 go_wp2;go_ret2;refine⟨LG,?_⟩;rw[HO.o];exact⟨_,_,_,_,_,_,_,_,rfl,C8,by rw[show 1000-(1000-nn)=nn by omega];exact MZ⟩
 ):σ:=h
def tx(h:σ:=by
 go_wp2;go_ret2;refine⟨HM.trans AA,?_⟩;rw[HO.o];exact⟨_,_,_,_,_,_,_,_,_,_,_,rfl,HS.fail⟩
 ):σ:=h
theorem gv(h:eA w S ra rn rc ba bn bc vs t n false){N m:Nat}{T0:Nat->Nat->Rat}(hT:Gy N m T0 t)(hN:N<=1000)(hm:m<=1000)(hn:n<=1000){ka:o6}{kn kc b0:Nat}{cost:o3}(hc:ZM w b0 (FB ka kn kc) cost):
 Calls prog 274 #[ats (some (IM S 0)),FB ka kn kc] w λe w'=>SB S w e w' (bD cost (1000-n) t):=by
 have⟨o,ho⟩:=j7 (bD cost (1000-n) t);rw[<-ho];refine Fn (show SV w w S N m T0 cost o (2*(1000-n)+1) n false t ra rn rc ba bn bc vs from⟨by simp,aR.refl _ _,h,λ_=>⟨hT,hn,ho.symm⟩,λe=>by cases e⟩) hc h.box λH0 HC Ga=>?_;have hlt:=IO h.box;clear h hT ho hc;go_in
 go_wp2
 go_loopg [8] (2*(1000-n)+1) (λgk s8 wr=>∃(nn:Nat) (f:Bool) (K:Tb) (ra:o6) (rn rc:Nat) (ba:o6) (bn bc:Nat) (vs:List atY),e9 (SV w wr S N m T0 cost o gk nn f K ra rn rc ba bn bc vs))
 ·exact⟨n,false,t,_,_,_,_,_,_,_,H0⟩
 obtain⟨nn,f,K,ra,rn,rc,ba,bn,bc,vs,HH⟩:=hrel;have⟨c0,c1,c2,c3,c4,cf⟩:=HH.st.cells;have hl1:=IO HH.st.box;have J2:=HH.mod.size;cases f
 ·have⟨hT,Ht,hph⟩:=HH.go rfl;have HT:=I hT;have HPH:=I hph;have J5:=hT.A';have Z:=I (DB HH.st.tb.Ku (by rw[<-HH.st.tb.Ku.rows.hlen,hT.len];omega) ((HC.mod HH.mod Ga).rats));rw[J5]at c2 Z;have MS:=I J5;clear hT hph J5;cases H:dE K cost with
  | none =>
    have HO:=I (show o=none by rw[<-HPH.o];exact sY _ H);rw[H]at Z;go_wp2_with rfl;refine Z.mono ?_;simp only[Ss,L'];rintro e w2 ⟨⟨v2,rfl,Is⟩,hx⟩;have HS:=I (HH.st.ext hx);have HM:=I (HH.mod.trans (aR.of hx));clear Is hx c0 c1 c2 c3 c4 cf H;have⟨c0,c1,c2,c3,c4,cf⟩:=HS.cells;exact tx
  | some cs =>
    rw[H]at Z;have Sf:=I H;go_wp2_with rfl;refine Z.mono ?_;simp only[NE,YO];rintro e w2 ⟨⟨v2,rfl,Is⟩,hx⟩;obtain⟨a2,n2,p2,rfl,Jb⟩:=Is.var;refine Fn (HH.st.ext hx) (HH.mod.trans (aR.of hx)) (show ZM w2 w (FB a2 n2 p2) cs from ZM.mono Is J2) λHS HM FM=>?_;clear Is hx c0 c1 c2 c3 c4 cf H;have⟨c0,c1,c2,c3,c4,cf⟩:=HS.cells;rw[MS.o]at c2;have⟨Fm,HCL⟩:=Ok (bQ cs (N:Int));go_upto_region 5 with rfl;have r7:=D4.drew w2;have Fu:=r7;have r8:=I (λ(w':J) (h:D4 w2 w')=>(an (h.o9 c0) (an (h.o9 c1) (an (h.o9 c2) h))))
    go_region_held3 (λw'=>w'.cell? (IM S 0)=some (FB ra rn rc)/\w'.cell? (IM S 1)=some (FB ba bn bc)/\w'.cell? (IM S 2)=some (U N)/\D4 w2 w')
     (with_reducible exact r8.o _ r7)
     (first
       | ((with_reducible refine(qW (ra:=ra) (rn:=rn) (rc:=rc) (ba:=ba) (bn:=bn) (bc:=bc) (x:=(N:Int)) (FM.o.rats.ext BB) N O).mono ?_)
          rw[<-HCL.o];rintro e w3 ⟨rfl,D3⟩;have r7:D4 w2 w3:=r7.trans D3;have Ra:=r7.size))
    clear Fu;refine Fn (HS.ext r7) (HM.trans (aR.of r7)) (FM.ext r7) λMZ LG C8=>?_;clear r7 c0 c1 c2 c3 c4 cf;have Rl:=I (show bQ cs K.A'=Fm by rw[MS.o,HCL.o]);by_cases Fo:Fm<0
    ·have HO:=I (show o=some ⟨K,1000-nn,cs,-1⟩by rw[<-HPH.o];exact qw _ Sf.o (by rw[Rl.o];exact Fo));exact Mr
    have⟨c0,c1,c2,c3,c4,cf⟩:=MZ.cells;rw[MS.o]at c2;have Q5:=I Fo;have NC:=I (xJ MZ.tb.Ku (by rw[<-MZ.tb.Ku.rows.hlen,HT.len];omega) Fm);rw[MS.o]at NC;have⟨row,A4⟩:=j7 (dN K Fm);have IE:=I (show dN K (bQ cs K.A')=row by rw[Rl.o,A4]);rw[<-A4]at NC;clear A4;go_wp2_with rfl;refine qc NC λw4 hx=>?_;refine Fn (MZ.ext hx) (LG.trans (aR.of hx)) (C8.ext hx) λQy M3 Gh=>?_;clear c0 c1 c2 c3 c4 cf;by_cases FH:row<0
    ·have HO:=I (show o=some ⟨K,1000-nn,cs,Fm⟩by
      rw[<-HPH.o,qx _ Sf.o (by rw[Rl.o];have:=Q5.o;omega) (by rw[IE.o];exact FH),Rl.o])
     exact J4
    have NA:=I (show o=(Jp K nn row Fm).bind λs=>bD cost (1000-s.2) s.1 by
     rw[<-HPH.o,qy Ht Sf.o (by rw[Rl.o];have:=Q5.o;omega) (by rw[IE.o];omega),IE.o,Rl.o])
    have OS:=I (Aw Qy.o HT.o hN hm Ht row Fm);have HK:e9 (gk=2*(1000-nn)+1):=HH.meas;go_wp2_with rfl;refine OS.mono ?_;rintro e w5 ⟨rfl,Og,ra5,rn5,rc5,ba5,bn5,bc5,vs5,FU⟩;cases Mi:Jp K nn row Fm with
    | none =>
      rw[Mi]at FU;obtain⟨t5,n5,MD⟩:=FU;have HO:=I (show o=none by rw[NA.o,Mi];rfl);have HH5:e9 (SV w w5 S N m T0 cost o 0 n5 true t5 ra5 rn5 rc5 ba5 bn5 bc5 vs5):=I ⟨rfl,M3.trans Og,MD,λe=>(by cases e),λ_=>HO.o⟩;clear MD Mi Og;go_wp2
      go_roundg 0
      case measure=>exact ck
      exact⟨n5,true,t5,_,_,_,_,_,_,_,HH5⟩
    | some st =>
      obtain⟨t5,n5⟩:=st;rw[Mi]at FU;have LU:n5=nn+1/\nn<1000/\bW K row Fm=some t5:=by
       exact Od
      obtain⟨rfl,hlt5,hpt⟩:=LU;have HO:=I (show bD cost (1000-(nn+1)) t5=o by rw[NA.o,Mi];rfl);have HH5:e9 (SV w w5 S N m T0 cost o (2*(1000-(nn+1))+1) (nn+1) false t5 ra5 rn5 rc5 ba5 bn5 bc5 vs5):=I ⟨rfl,M3.trans Og,FU,λ_=>⟨ia HT.o hpt,by omega,HO⟩,λe=>(by cases e)⟩;clear FU Mi Og hpt;go_wp2
      go_roundg (2*(1000-(nn+1))+1)
      case measure=>exact ck
      exact⟨nn+1,false,t5,_,_,_,_,_,_,_,HH5⟩
 have HO:=I (HH.no rfl);go_wp2;go_ret2;refine⟨HH.mod,?_⟩;rw[HO.o];exact⟨_,_,_,_,_,_,_,_,_,_,_,rfl,HH.st⟩
end
theorem vm{cap:Nat}{front:o3}(h:i8 w a n cap front)(rest:Int)(m:Nat)(hn:n<=100000)(hm:m<=100000):
 Calls prog 275 #[FB a n cap,U rest,U m] w λe w'=>(∃v,e=atn v/\ZM w' w v (front++List.replicate m (rest,1)))/\D4 w w':=by
 have HL:=I h.hlen;have⟨FQ,IH⟩:=h.ath;have HI:=I (h.ext (D4.alloc w (SH #[] 80)));have HO:=I (ZM.made w w (m9 _));go_in
 go_wp2_with (first
  | (at_builtin;refine cH rfl _ _ rfl w (GT w 0 0) [] rfl HO.o a n cap front rfl HI.o t8 j9 ?_;intro v5 w5 ho hg r';have X5:=I (aj (D4.alloc w (SH #[] 80)) hg (λj hj=>sw (iv (show some w.heap.size=some j from hj))));obtain⟨a5,n5,p5,rfl,JU⟩:=ho.var;have Fj:=I ho))
 go_loopg [7,12] m (λgk oo ii wr=>∃(k:Nat) (a1:o6) (Z K:Nat),e9 (gk+k=m)/\ii=U k/\oo=FB a1 Z K/\e9 (ZM wr w (FB a1 Z K) (front++List.replicate k (rest,1)))/\e9 (D4 w wr))
 ·exact⟨0,_,_,_,I O,rfl,rfl,I (by have:=Fj.o;simpa using this),X5⟩
 obtain⟨k,a1,Z,K,HK,rfl,rfl,H,HX⟩:=hrel;by_cases hlt:k<m
 ·have Gq:=I (show(front++List.replicate k (rest,(1:Int))).length=n+k by simp[HL.o]);go_wp2_with rfl;refine i6 (cW rest _) λw3 hx=>?_;have X3:=I (HX.trans hx);have C8:=I (H.ext hx);have LR:=X3.size
  go_wp2_with (first
   | (at_builtin;refine Qt rest 1 C8 X3 E9 λa5 n5 p5 w5 JU X5 Fj=>?_))
  refine dk ?_;exact⟨k+1,a5,n5,p5,I (l8 HK.o),by go_num,rfl,I RU,X5⟩
 have JS:m=k:=l8 HK.o;subst JS;go_wp2;go_ret;exact⟨⟨_,rfl,H⟩,HX⟩
theorem ls(t:Tb):∀k,Lp (IQ t k)=t.A'.toNat+Lp t.rows
 | 0=>by simp[IQ]
 | k+1=>by simp only[IQ,km];exact ls t k
def Rz(h:σ:=by
 have LR:=X3.size;clear hx
 go_wp2_with (first
  | (at_builtin;refine Qt 0 1 C8 X3 E9 λa5 n5 p5 w5 JU X5 Fj=>?_))
 refine qq0 ?_;exact⟨k+1,a5,n5,p5,I (l8 HK.o),by go_num,rfl,I Jh,X5⟩
 ):σ:=h
def Uc(h:σ:=by
 go_wp2_with rfl;refine sq ?_;exact⟨j+1,I (l8 HJ.o),by go_num,Fj,Hh⟩
 ):σ:=h
def bk(h:σ:=by
 exact⟨0,I O,rfl,FM,HX⟩
 ):σ:=h
theorem xM{ra:o6}{rn rc:Nat}{ba:o6}{bn bc:Nat}(h:QW w ra rn rc ba bn bc t)(Kk:rn<=100000)(D9:JF t=true):
 Calls prog 278 #[Qk ra rn rc ba bn bc t.A'] w λe w'=>(∃v,e=atn v/\ZM w' w v (H8 t))/\D4 w w':=by
 have B9:=D4.alloc w (dh ra rn rc ba bn bc t.A');have B4:=I B9;have H:=I (h.ext B9);have HF:=I (ld H.o O);rw[D9]at HF;have⟨m,RZ,hm,Pg,Vt,adf⟩:=jb h D9;subst Pg;have⟨FL,Hs⟩:=h.rows.ath;refine ZH h.rows.hlen (show H8 t=IQ t bn by unfold H8;rw[i7 D9,h.rows.hlen]) (show IQ t 0=List.replicate (m+bn) (0,1)by simp only[IQ];rw[RZ,h.rows.hlen];rfl) (λk=>show(IQ t k).length=m+bn by rw[ls,RZ,h.rows.hlen];simp) Vt adf RZ λGS HSO Sb Hi GN Kt Jz=>?_;rw[RZ]at HF B9 B4 H;rw[RZ];have HO:=I (λ(W:J)=>ZM.made W W (m9 _));clear h B9 Vt adf D9 RZ;go_in
 go_wp2_with rfl;refine qc HF λZ X1=>?_;have H1:=I (H.ext X1);have c0:Z.cell? (IM w 0)=some (FB ra bn rc):=X1.o9 j9;have c2:Z.cell? (IM w 2)=some (U m):=X1.o9 j9;have J2:w.heap.size+1<=Z.heap.size:=by have:=X1.size;simpa using this
 have hs1':w.heap.size<Z.heap.size:=J2;have HO1:=I (HO Z);go_wp2
 go_loopg [3,16] (m+bn) (λgk oo ii wr=>∃(k:Nat) (a1:o6) (K p1:Nat),e9 (gk+k=m+bn)/\ii=U k/\oo=FB a1 K p1/\e9 (ZM wr Z (FB a1 K p1) (List.replicate k (0,1)))/\e9 (D4 Z wr))
 ·exact I1
 rename Nat=>g1;rename J=>A1;obtain⟨k,a1,K,p1,HK,rfl,rfl,HO1,HX⟩:=hrel;clear c0 c2;by_cases hlt:k<m+bn
 ·have Gq:=I (show(List.replicate k ((0:Int),(1:Int))).length=k by simp);have acY:(k:Int)<(m:Int)+(bn:Int):=by omega
  go_wp2_with rfl;refine i6 (cW 0 _) λw3 hx=>?_;have X3:=I (HX.trans hx);have C8:=I (HO1.ext hx);have qq0:=@gy;exact Rz
 have JS:k=m+bn:=l8 HK.o;have acY:¬(k:Int)<(m:Int)+(bn:Int):=O;have FM:=I (show ZM A1 Z (FB a1 K p1) (IQ t 0)by rw[Sb.o,<-JS];exact HO1);have c0:A1.cell? (IM w 0)=some (FB ra bn rc):=(X1.trans HX).o9 j9;clear JS;go_wp2
 go_loopg [26] bn (λgk ii wr=>∃(k:Nat),e9 (gk+k=bn)/\ii=U k/\e9 (ZM wr Z (FB a1 K p1) (IQ t k))/\e9 (D4 Z wr))
 ·exact bk
 obtain⟨j,HJ,rfl,Gh,Io⟩:=hrel;clear c0;by_cases Hn:j<bn
 ·have⟨zb,Gd,ya,yn,yc,Lf,Hl,A4⟩:=(H1.ext Io).rows.at Hn;subst Lf;have⟨u,hu⟩:=j7 (m+bn);have Nb:yn=u+1:=by rw[<-A4.hlen,hu];exact GN.o j Hn
  have HYN:=I Nb;have⟨F7,Mz⟩:=A4.ath;have hub:u<=200000:=O;have⟨yb,F3,p,q,MT,Fw,Sq,Sp⟩:=A4.at (show u<yn by omega);subst MT;have Gi:e9 (t.at j u=(p,q)):=Fw;have⟨b,hb,LZ⟩:=Kt.o j Hn;have HB:=I hb;have⟨eb,D6,Kl,GI⟩:=(H1.ext Io).basis.at Hn;subst Kl;rw[hb]at GI;have Ht:K=u:=by have:=Gh.rats.hlen;rw[Hi.o]at this;omega
  subst Ht;have⟨G,hG,OH,NO,VH⟩:=Gh.block (k:=b) O;subst hG;have⟨G',UW,g1v,g2v,JL,KF,Oh,MU⟩:=Gh.rats.at (show b<K by omega);obtain⟨rfl,rfl⟩:=er JL;clear JL;rw[fs]at Oh MU;have c1:wr.cell? (IM w 1)=some (FB (some (IM eb D6)) bn bc):=(X1.trans Io).o9 j9;have hwr:IntKind.i64.wrap ((yn:Int)-1)=(K:Int):=by have:=HYN.o;rw[j0];omega
  have LP:(K:Int)<(yn:Int):=l8 HYN.o;have Li:=aE K;have I7:=aE b;have Gm:=SW b K;have hj0:=aE j;have hj1:=SW j bn;have HU:=I hu;clear Fw A4 Nb hb KF hu;go_upto_region 11 with rfl
  go_still_tail 13,k8
  have Fj:=I (show ZM ((wr.drew.setCell (IM G (b*2)) (U p)).setCell (IM G (b*2+1)) (U q)) Z (GT G K p1) (IQ t (j+1))by
   have h1:=(Gh.ext (D4.drew wr)).set (k:=b) (by rw[Hi.o,<-HU.o];omega) p q;have h2:IQ t (j+1)=(IQ t j).set b (p,q):=by
    simp only[IQ];rw[HB.o,eI,Jz.o,eI,GS.o,<-HU.o,Gi.o]
   rw[h2];exact h1)
  have Hh:=I (((Io.trans (D4.drew wr)).setCell (p:=(IM G (b*2))) OH (U p)).setCell (p:=(IM G (b*2+1))) OH (U q));clear hwr;exact Uc
 have Nh:bn=j:=l8 HJ.o;subst Nh;go_wp2;go_ret;exact⟨⟨_,rfl,by rw[HSO.o];exact Gh.mono O⟩,(B4.trans X1).trans Io.o⟩
theorem mU{V:o7}{k:Nat}{v:Int}(hn:Lp V=n)(h:k+1<n)(H:V[k+1]?.getD 0=v):(aY V).take k++[(-v,1)]=(aY V).take (k+1):=by
 have Q:k+1<Lp V:=O;have K:(aY V)[k]?=some (-v,1):=by
  unfold aY;rw[In Q,NE]at H;rw[sr,QL,RY 1 k,In Q,H];rfl
 have Z:k<Lp (aY V):=(Ls.1 K).1;rw[tn Z,(Ls.1 K).2]
def OP(h:σ:=by
 exact⟨k+1,a5,n5,p5,I (l8 HK.o),by go_num,rfl,I U5,X5⟩
 ):σ:=h
theorem ol{p:Int}{cap:Nat}{V:o7}(h:d6 w a n cap V)(Ht:1<=n)(hn:n<=1000)(hV:∀x∈V,-500<=x/\x<=500):
 Calls prog 204 #[Id p a n cap,U 1,U ((n:Int)-1)] w λe w'=>(∃v,e=atn v/\ZM w' w v (aY V))/\D4 w w':=by
 have HL:=I h.hlen;have⟨FQ,IH⟩:=h.ath;have⟨W,hW⟩:=j7 (w.alloc (SH #[U p,FB a n cap] 31));have N':D4 w W:=by rw[hW];exact ZL
 refine Op N' (h.ext N') hV (show W.cell? (IM w 1)=some (FB a n cap)by rw[hW];simp) λIg HI J9 Ga=>?_;have hsW:=N'.size;have HO1:=I (ZM.made W W (m9 _));have K:=I (show(aY V).length=n-1 by unfold aY;simp[h.hlen]);go_in
 go_upto_region 1 with rfl;rw[<-hW];clear hW;go_wp2
 go_loopg [7,8] (n-1) (λgk oo ii wr=>∃(k:Nat) (a1:o6) (n1 p1:Nat),e9 (gk+k=n-1)/\ii=U ((k+1:Nat):Int)/\oo=FB a1 n1 p1/\e9 (ZM wr W (FB a1 n1 p1) ((aY V).take k))/\e9 (D4 W wr))
 ·exact I1
 obtain⟨k,a1,n1,p1,HK,rfl,rfl,aa,H⟩:=hrel;have hsz:=H.size;have bx:=H.o9 Ga.o;by_cases hlt:k+1<n
 ·have hle:((k+1:Nat):Int)<=(n:Int)-1:=by omega
  have⟨eb,D6,Kl,GI⟩:=(HI.ext H).at hlt;subst Kl;have⟨v,Z⟩:=j7 (V[k+1]?.getD 0);have Ha:-500<=v/\v<=500:=by
   rw[Z,In CI,NE];exact J9.o _ (cP _)
  rw[<-Z]at GI;have H7:=I (mU HL.o hlt Z.symm);have Q':=dc (-v);have MI:(0:Int)<=((k+1:Nat):Int):=O;have Ij:((k+1:Nat):Int)<(n:Int):=O;have r7:=qj (((k+1:Nat):Int)+1) ((k+1+1:Nat):Int);have Qw:=I (show((aY V).take k).length=k by rw[jt,K.o];omega);clear Z;go_wp2_with rfl;refine i6 (cW (-v) _) λw3 hx=>?_;have X3:=I (H.trans hx);have C8:=I (aa.ext hx);have LR:=X3.size
  go_wp2_with (first
   | (at_builtin;refine Qt (-v) 1 C8 X3 o2 λa5 n5 p5 w5 JU X5 Fj=>?_))
  refine dk ?_;exact OP
 have hle:¬((k+1:Nat):Int)<=(n:Int)-1:=O;have HT:e9 ((aY V).take k=aY V):=aP (by rw[K.o];omega);go_wp2;go_ret;exact⟨⟨_,rfl,by rw[<-HT.o];exact aa.mono hsW⟩,Ig.trans H.o⟩
theorem nh{cap:Nat}{Y:o3}(h:i8 w a n cap Y)(hn:n<=100000)(hY:∀k:Nat,-9223372036854775807<=(Y[k]?.getD (0,0)).1/\(Y[k]?.getD (0,0)).1<=9223372036854775807):
 Calls prog 127 #[FB a n cap] w λe w'=>(∃v,e=atn v/\ZM w' w v (Y.map D2))/\D4 w w':=by
 have HL:=I h.hlen;have⟨FQ,IH⟩:=h.ath;refine Fn h hY (ZM.made w w (m9 _)) λHI HB HO1=>?_;go_in
 go_wp2
 go_loopg [3,9] n (λgk oo ii wr=>∃(k:Nat) (a1:o6) (Z K:Nat),e9 (gk+k=n)/\ii=U k/\oo=FB a1 Z K/\e9 (ZM wr w (FB a1 Z K) ((Y.take k).map D2))/\e9 (D4 w wr))
 ·exact I1
 obtain⟨k,a1,Z,K,HK,rfl,rfl,aa,HX⟩:=hrel;have hsz:=HX.size;by_cases H:k<n
 ·have⟨eb,D6,x,y,Kl,FI,GI,LX⟩:=(HI.ext HX).at H;subst Kl;have hb:=HB.o k;rw[FI]at hb;have H7:=I (show(Y.take k).map D2++[(-x,y)]=(Y.take (k+1)).map D2 by
   have h1:k<Lp Y:=by rw[HL.o];exact H
   rw[tn h1,rN,z8];rw[In h1,NE]at FI;rw[FI];rfl)
  have MI:=aE k;have Ij:=SW k n;have Qw:=I (show((Y.take k).map D2).length=k by rw[b7,jt,HL.o];omega);have HM:=I (λw'=>fc x y w' hb.1 hb.2);go_wp2_with rfl;refine i6 (HM _) λw3 hx=>?_;have X3:=I ((HX.trans ZL).trans hx);have C8:=I ((aa.ext ZL).ext hx);have LR:=X3.size
  go_wp2_with (first
   | (at_builtin;refine Qt (-x) y C8 X3 o2 λa5 n5 p5 w5 JU X5 Fj=>?_))
  refine dk ?_;exact OP
 have HT:e9 (Y.take k=Y):=aP S4;rw[HT.o]at aa;go_wp2;go_ret;exact⟨⟨_,rfl,aa⟩,HX⟩
end
section
variable{n k:Nat}{A:o4}
def Y2(w:J)(e:Ending)(A:o4)(B:o7)(C:o3)(ok:Bool):Prop :=
 ∃a na ca b nb cb c nc cc,e=atn (.tuple #[JI a na ca b nb cb c nc cc,ato ok])/\(ok=true->L6 w a na ca b nb cb c nc cc A B C)
theorem AW(hn:n<=32):∀k:Nat,(Fx 1 (n-1))[k]?.getD 0<=9223372036854775807:=by
 intro k;by_cases h:k<Lp (Fx 1 (n-1))
 ·rw[In h,NE];simp only[Fx,b7,PS]at h;simp only[Fx,gz,ZD];omega
 rw[mq O];decide
def ZA(h:σ:=by
 rw[hg,hW]at HC;clear hg;go_in
 go_wp2_with rfl;refine HC.mono ?_;rw[<-hW];rintro e w1 ⟨rfl,B0⟩;have FH:=D5.G9 (E6 w1 B0);have FL:=D5.G8 (E6 w1 B0);have Hs:=D5.Hw (E6 w1 B0);have JR:=D5.Hv (E6 w1 B0);have A6:=I B0;clear B0;go_wp2;refine GE (v:=.tuple #[.agg #[d9,d9,d9],ato false]) (by simp[results,qq0,go_sem,FH,FL,Hs]) rfl ⟨⟨none,0,0,none,0,0,none,0,0,rfl,λh=>Bool.noConfusion h⟩,(((B4.trans A6).store 0 O _).store 1 O _).store 2 O _⟩
 ):σ:=h
theorem xB{w:J}{p:Int}{a:o6}{cap:Nat}{V:o7}(h:d6 w a n cap V):
 Calls prog 133 #[Id p a n cap] w λe w'=>Y2 w' e (dQ p.toNat n) (ed p.toNat) (aY V) (ak p V)/\D4 w w':=by
 have⟨W,hW⟩:=j7 ((w.alloc (SH #[U p,FB a n cap] 31)).alloc (SH #[d9,d9,d9] 124));refine kv (show W.heap.size=w.heap.size+2 by rw[hW];simp) (show D4 w W by rw[hW];exact ZL.trans ZL) (show W.cell? (IM w 1)=some (FB a n cap)by rw[hW];simp) (show W.cell? (IM w 0)=some (U p)by rw[hW];simp) (show W.heap[w.heap.size+1]?=some (SH #[d9,d9,d9] 124 (0,0))by rw[hW];exact LE j9) λFp B4 P9 OR Uj=>?_;have⟨WG,Tl⟩:=j7 (w.alloc (SH #[U p,FB a n cap] 31));refine Op (show D4 WG W by rw[hW,Tl];exact ZL) (show WG.heap.size=w.heap.size+1 by rw[Tl];simp) (show WG.cell? (IM w 0)=some (U p)by rw[Tl];simp) (show WG.cell? (IM w 1)=some (FB a n cap)by rw[Tl];simp) λHXG Oq HG0 Uw=>?_;clear Tl;have HVL:=I h.hlen;have⟨PI,PH⟩:=h.ath;have Kx:=I (h.ext B4);have HC:=I (bV (p:=p) (h.ext B4));have LS:(w.heap.size+1)<W.heap.size:=by rw[Fp.o];omega
 have E6:=I (λ(w':J) (hx:D4 W w')=>(hx.block _ LS).trans Uj);cases hg:ak p V
 ·have qq0:=@results133;exact ZA
 obtain⟨q,rfl,h1,h5,hlen,_,Ha⟩:=ap hg;have hq:=bp q h5;have IU:n<=32:=by rw[<-HVL.o,hlen];omega
 have Ht:1<=n:=by rw[<-HVL.o,hlen];omega
 have J9:=I Ha;have Mj:=dc ((n:Int)-1);rw[hg,hW]at HC;go_in
 go_wp2_with rfl;refine HC.mono ?_;rw[<-hW];clear hW;rintro e w1 ⟨rfl,B0⟩;have Fo:=B0.o9 OR.o;have FQ:=B0.o9 P9.o;have A6:=I B0;refine Fn (B4.trans A6) (AW IU) (show(Fx 1 (n-1)).length=n-1 by simp[Fx]) λP8 HSB Hi=>?_;go_wp2_with rfl;have Z:=D4.drew w1;refine k6 (S:=(λw'=>w'.cell? (IM w 0)=some (U q)/\w'.cell? (IM w 1)=some (FB a n cap)/\D4 w w')) k8 ?_ (λr9=>?_)
 ·exact⟨Z.o9 Fo,Z.o9 FQ,P8.trans Z⟩
 refine ks ⟨?_⟩;refine tk 5 ?_;refine tk 6 ?_;refine tk 8 ?_;refine tk 9 ?_;refine rd 3 λK hK=>?_;go_simp
 (go_at_call 202;refine PP (kY 1 ((n:Int)-1) (n-1) O O O O) λw3 v3 Gw C0=>?_;obtain⟨a3,n3,c3,rfl,NB⟩:=Gw.var;have Z:=Z.trans C0;have C8:=I Gw)
 go_wp2_with rfl;refine KO (an (Z.o9 Fo) (an (Z.o9 FQ) (P8.trans Z))) λr9=>?_;refine rd 4 λK hK=>?_;go_simp
 (go_at_call 201;refine(lR q h5 C8.ints HSB.o (by have h1:=NB.o;have h2:=Hi.o;omega)).mono ?_;rintro e w4 ⟨⟨v4,rfl,Jd⟩,E4⟩;obtain⟨a4,n4,c4,rfl,HN4⟩:=Jd.var;have Gh:=I (bZ.mono' Jd Z.size);have Z:=Z.trans E4)
 go_wp2_with rfl;refine KO (an (Z.o9 Fo) (an (Z.o9 FQ) (P8.trans Z))) λr9=>?_;refine rd 7 λK hK=>?_;go_simp
 (go_at_call 203;refine PP (gD q 1 O) λw5 v5 Of F'=>?_;obtain⟨a5,n5,c5,rfl,JU⟩:=Of.var;have Gh:=I (bZ.ext Gh.o F');have Fj:=I (Of.mono Z.size);have Z:=Z.trans F')
 go_wp2_with rfl;refine KO (an (Z.o9 Fo) (an (Z.o9 FQ) (P8.trans Z))) λr9=>?_;refine rd 10 λK hK=>?_;go_simp
 (go_at_call 204;refine PP (ol (p:=(q:Int)) (((Kx.ext A6).ext Z)) Ht O J9) λw6 v6 Ll Jg=>?_;obtain⟨a6,n6,c6,rfl,Jy⟩:=Ll.var;have Gh:=I (bZ.ext Gh.o Jg);have Fj:=I (Fj.ext Jg);have Gp:=I (Ll.mono Z.size);have Z:=Z.trans Jg;have J3:=E6.o _ (A6.trans Z);have FH:=D5.G9 J3;have FL:=D5.G8 J3;have Hs:=D5.Hw J3;have JR:=D5.Hv J3)
 go_wp2_with rfl;refine KO (an (Z.o9 Fo) (an (Z.o9 FQ) (P8.trans Z))) λr9=>?_;refine tk 11 ?_;have hgx:=λu0 u1 u2=>((((HXG.trans A6).trans Z).store (b:=w.heap.size+1) 0 (sw Oq) u0).store (b:=w.heap.size+1) 1 (sw Oq) u1).store (b:=w.heap.size+1) 2 (sw Oq) u2;refine rd 12 λK hK=>?_;go_simp;refine hK.out _ _ ?_ (λr9=>?_)
 ·exact⟨(hgx _ _ _).o9 HG0.o,(hgx _ _ _).o9 Uw.o,(((P8.trans Z).store 0 O _).store 1 O _).store 2 O _⟩
 try simp only[Act.put,sA,sB,sC]
 refine tk 13 ?_;refine ST k8 ?_ _;have J2:=A6.size;rw[Fp.o]at J2;have Zw:∀k,w1.heap.size<=k->(((w6.setCell (IM (w+1) 0) (FB a4 n4 c4)).setCell (IM (w+1) 1) (FB a5 n5 c5)).setCell (IM (w+1) 2) (FB a6 n6 c6)).heap[k]?=w6.heap[k]?:=λk Ij=>by
  rw[If _ _ _ _ (show k≠w.heap.size+1 by omega),If _ _ _ _ (show k≠w.heap.size+1 by omega),If _ _ _ _ (show k≠w.heap.size+1 by omega)]
 go_wp2;refine GE (v:=.tuple #[JI a4 n4 c4 a5 n5 c5 a6 n6 c6,ato true]) (by simp[results,results133,go_sem,FH,FL,Hs]) rfl ⟨⟨a4,n4,c4,a5,n5,c5,a6,n6,c6,rfl,λ_=>⟨?_,?_,?_⟩⟩,(((P8.trans Z).store 0 O _).store 1 O _).store 2 O _⟩
 ·exact bZ.Mg (Gh.on _ λk h1 _=>Zw k h1)
 ·exact(Fj.on _ λk h1 _=>Zw k h1).ints
 exact(Gp.keep λk h1=>Zw k (Gp.lt k h1).1).rats
theorem Iu{B:o7}{C:o3}(ok:FT A B C=true){r:I'}(h:Ih A B C=some r)(hs:r.status=1):
 Lp r.Y=Lp B/\A5 r.value=true/\(∀k,k<Lp r.Y->A5 (r.Y[k]?.getD (0,0))=true):=by
 have⟨h1,h2,h3,h4,h5,h6⟩:=hU ok;unfold Ih at h;rw[h3]at h;cases K:bD (eT (Lp C) (Lp A)) 1000 (cG A B (Lp C))with
 | none=>rw[K]at h;cases h
 | some p1 =>
   rw[K]at h;simp only[kx]at h;split at h
   ·rw[O0]at h;obtain⟨Y,_,rfl⟩:=h;cases hs
   cases H:bP (Lp C) (p1.t,p1.left) (Lp A) with
   | none=>rw[H]at h;cases h
   | some s =>
     rw[H]at h;simp only[kx]at h;rw[O0]at h;obtain⟨p2,e3,h⟩:=h;split at h
     ·subst h;cases hs
     have i1:=(eG (jW ok) K).1;have i2:=(gX (s:=(p1.t,p1.left)) i1 H).1;obtain⟨i3,e4,_⟩:=eG i2 e3;have⟨c1,c2⟩:=fq i3 e4;subst h;refine⟨by simp[h3],?_,λk Z=>?_⟩
     ·simp only;rw[ew];exact c1.2 _ O
     simp only[b7,PS]at Z;simp only;rw[sr,Pp Z,tv,NE];have Q:=c1.2 (Lp C+k) O;unfold eP Je;split
     ·rw[ew,ew];exact Q
     rw[ew];exact Q
theorem fD{bound:o4->o3->o3->Nat->Bool}{B:o7}{C:o3}(h:(bH bound A B C).status=1):
 FT A B C=true/\Ih A B C=some (bH bound A B C)/\aQ bound A B C (bH bound A B C)=true/\(bH bound A B C).Y.length=Lp B/\A5 (bH bound A B C).value=true/\∀k,k<(bH bound A B C).Y.length->A5 ((bH bound A B C).Y[k]?.getD (0,0))=true:=by
 cases ok:FT A B C with
 | false=>unfold bH at h;rw[f8 (by rw[ok];simp)]at h;cases h
 | true =>
   cases hr:Ih A B C with
   | none =>
     have e:bH bound A B C=bh 4:=by unfold bH;rw[i7 ok,hr]
     rw[e]at h;cases h
   | some r =>
     have e:bH bound A B C=if aQ bound A B C r=true then r else bh 4:=by unfold bH;rw[i7 ok,hr]
     by_cases hc:aQ bound A B C r=true
     ·rw[i7 hc]at e;rw[e]at h⊢;have:=Iu ok hr h;exact⟨rfl,rfl,hc,this⟩
     rw[f8 hc]at e;rw[e]at h;cases h
theorem jI(p:Nat->Bool)(k:Nat):(List.range (k+1)).all p=((List.range k).all p&&p k):=by
 rw[mr,p7];simp
theorem ek{p:Nat->Bool}(h:k<n)(H:p k=false):(List.range n).all p=false:=by
 rw[Uf];exact⟨k,nM.2 h,by simp[H]⟩
theorem xH(x:Int)(w:J):Calls prog 272 #[U x] w λe w'=>e=atn (ato (!A8 x (-5000) 5000))/\w=w':=by
 exact YW
theorem oe:Rd prog 272:=cE func272 k8 k8
theorem lG(w:J):O4 prog w 272 #[] (λx=>!A8 x (-5000) 5000) :=
 λx H _=>(xH x H).mono λe w' ⟨K,hw⟩=>⟨K,hw▸So⟩
def eU(m:Nat)(r:o7):Bool:=decide (Lp r=m)&&r.all (A8 · (-5000) 5000)
theorem tX(l:o7):l.any (λx=>!A8 x (-5000) 5000)=!l.all (A8 · (-5000) 5000):=by rw[List.not_all_eq_any_not]
theorem mJ(A:o4)(B:o7)(C:o3):FT A B C=(decide (Lp C<=70)&&(decide (Lp A<=8)&&(decide (Lp B=Lp A)&&(Hf C&&(A.all (eU (Lp C))&&B.all (A8 · (-5000) 5000)))))):=rfl
theorem uO{p:o7->Bool}{l:o4}(h:k<Lp l):(l.take (k+1)).all p=((l.take k).all p&&p (l[k]?.getD [])):=by
 rw[fE h];simp
theorem jZ{p:o7->Bool}{l:o4}(h:k<Lp l)(hb:p (l[k]?.getD [])=false):l.all p=false:=by
 exact Uq
section
variable{w:J}{a:o6}{na ca:Nat}{b:o6}{nb cb:Nat}{c:o6}{nc cc:Nat}{A:o4}{B:o7}{C:o3}
def gr(h:σ:=by
 (try unfold f9);go_in
 go_wp2;go_ret;exact⟨ag aa.symm,B4⟩
 ):σ:=h
theorem fH(h:L6 w a na ca b nb cb c nc cc A B C):
 f9 205 #[JI a na ca b nb cb c nc cc] w (ato (FT A B C)):=by
 have B9:=D4.alloc w (bT a na ca b nb cb c nc cc);refine Fn B9 (h.ext B9) (mJ A B C) λB4 H HE=>?_;have⟨Wn,QQ⟩:=h.a.ath;have⟨Gm,F0⟩:=h.b.ath;have⟨FQ,IH⟩:=h.c.ath;refine Fn h.a.hlen h.b.hlen h.c.hlen λJc Hj Ji=>?_;by_cases h1:nc<=70
 ·by_cases h2:na<=8
  ·by_cases h3:nb=na
   ·subst h3;have GY:((nb:Int) != (nb:Int))=false:=by simp
    have HN:=I (show FT A B C=(Hf C&&(A.all (eU nc)&&B.all (A8 · (-5000) 5000)))by
     rw[HE.o,Jc.o,Hj.o,Ji.o,bl h1,bl h2,bl rfl];rfl)
    have HF:=I (mZ H.c);cases hv:Hf C
    ·rw[hv]at HF HN;(try unfold f9);go_in
     go_wp2_with rfl;refine i6 HF λw1 hx=>?_;have qq0:=@ag;exact rj
    rw[hv]at HF HN;(try unfold f9);go_in
    go_wp2_with rfl;refine i6 HF λw1 hx=>?_;have Fo:w1.cell? (IM w 0)=some (FB a nb ca):=hx.o9 j9;have RD:w1.cell? (IM w 1)=some (FB b nb cb):=hx.o9 j9;have hcc:w1.cell? (IM w 2)=some (FB c nc cc):=hx.o9 j9;refine Op RD hcc (H.ext hx) (B4.trans hx) λRU Lb H1 X1=>?_;go_wp2
    go_loopg [34] nb (λgk ii wr=>∃k:Nat,e9 (gk+k=nb)/\ii=U k/\e9 ((A.take k).all (eU nc)=true)/\e9 (D4 w1 wr))
    ·exact FC
    obtain⟨k,HK,rfl,HA,HX⟩:=hrel;by_cases Z:k<nb
    ·have⟨gb,L0,ra,rn,rc,UR,PL,A4⟩:=(H1.ext HX).a.at Z;subst UR;have hcc:=HX.o9 Lb.o;have GS:=I A4.hlen;have⟨Kk,hrm⟩:=A4.ath;have K:=I (show k<Lp A by rw[Jc.o];exact Z);have V6:=I (dJ A4 oe (lG _));cases hl:((rn:Int) != (nc:Int))
     ·cases hr:(A[k]?.getD []).all (A8 · (-5000) 5000)
      ·have aa:=I (show FT A B C=false by
        rw[HN.o,jZ K.o (by unfold eU;rw[hr];simp)];rfl)
       rw[tX,hr]at V6;go_wp2_with rfl;refine i6 V6 λw2 C9=>?_;have X2:=I ((X1.trans HX).trans C9);go_wp2;go_ret;exact⟨ag aa.symm,X2⟩
      have HT:=I (show(A.take (k+1)).all (eU nc)=true by
       rw[uO K.o,HA.o];unfold eU;rw[hr,GS.o];simp at hl⊢;omega)
      rw[tX,hr]at V6;go_wp2_with rfl;refine i6 V6 λw2 C9=>?_;have X2:=I (HX.trans C9);exact S7
     have aa:=I (show FT A B C=false by
      rw[HN.o,jZ K.o (by unfold eU;rw[GS.o,RK (by simp at hl;omega)];rfl)];rfl)
     go_wp2;go_ret;exact⟨ag aa.symm,X1.trans HX.o⟩
    have E':nb=k:=l8 HK.o;subst E';have HT:=I (show A.all (eU nc)=true by have:=HA.o;rwa [aP (by rw[Jc.o];exact m9 _)]at this);have RD:=HX.o9 RU.o;have V6:=I (dJ (H1.ext HX).b oe (lG _));rw[tX]at V6;go_wp2_with rfl;refine i6 V6 λw2 C9=>?_;have X2:=I ((X1.trans HX).trans C9);go_wp2;go_ret;exact⟨ag (by rw[HN.o,HT.o];simp),X2⟩
   have aa:=I (show FT A B C=false by rw[HE.o,Jc.o,Hj.o,RK h3];simp);have GY:((nb:Int) != (na:Int))=true:=t8;exact gr
  have aa:=I (show FT A B C=false by rw[HE.o,Jc.o,RK h2];simp);exact gr
 have aa:=I (show FT A B C=false by rw[HE.o,Ji.o,RK h1];simp);exact gr
end
theorem gO{r:o7}(h:∀x∈r,-5000<=x/\x<=5000):eV r=aI r:=by
 unfold eV Nn;rw[i7];rw[fp];intro x hx;have:=h x hx;simp[A8];omega
def iQ(A:o4)(x:o3)(B:o7)(i:Nat):Bool:=decide (Fs (aI (A[i]?.getD [])) x=some (B[i]?.getD 0,1))
theorem vg(A:o4)(x:o3)(B:o7):es A x B=(List.range (Lp A)).all (iQ A x B):=rfl
def NH(h:σ:=by
 obtain⟨r1,r2⟩:=r;rw[show F9 (some (r1,r2))=((r1,r2),true)from rfl]at HD;go_wp2_with rfl;refine HD.mono ?_;rintro e w3 ⟨rfl,C0⟩;replace SE:=C0.o9 SE;have X3:=I (X2.trans C0);clear C0;have⟨E,hE⟩:=j7 (w3.alloc (SH #[U r1,U r2] 80));have Ic:D4 w3 E:=by rw[hE];exact ZL
 have XE:=I (X3.trans Ic);have e0:=Ic.o9 SE;have b0:E.cell? (IM w3.heap.size 0)=some (U r1):=by rw[hE];simp
 have b1:E.cell? (IM w3.heap.size 1)=some (U r2):=by rw[hE];simp
 go_upto_region 5 with rfl;rw[<-hE];clear hE SE Ic;have C4:(k:Int)<(dn:Int):=by omega
 have MI:(0:Int)<=(k:Int):=by omega
 have r7:D4 E E.drew:=D4.drew E;have r8:=I λw' (h:D4 E w')=>TX (h.o9 e0) (TX (h.o9 b0) (TX (h.o9 b1) h));have Ly:=I (show iQ A X D k=((r1 == d)&&(r2 == 1))by rw[HG.o,uu];simp);cases B0:(r1 == d)
 all_goals
  cases F7:(r2 == 1)
 all_goals
  have Pu:=I Ly.o;rw[B0,F7]at Pu
  go_region_held3 (λw'=>w'.cell? (IM db (QR+k))=some (U d)/\w'.cell? (IM w3.heap.size 0)=some (U r1)/\w'.cell? (IM w3.heap.size 1)=some (U r2)/\D4 E w')
   (first
     | with_reducible exact r8.o _ r7)
   (first
     | ((with_reducible refine(qq0 _ _).mono ?_)
        rintro e w5 ⟨rfl,F'⟩;have r7:D4 E w5:=r7.trans F'))
  have X5:=I (XE.trans r7);clear r7
 all_goals try(
  have HF:=I (show es A X D=false by rw[HE.o];exact ek hlt (by rw[Pu.o];rfl));go_wp2;go_ret;exact⟨ag HF.symm,B4.trans X5.o⟩)
 have HT:=I (show(List.range (k+1)).all (iQ A X D)=true by rw[jI,HA.o,Pu.o];rfl);go_wp2_with rfl;refine dk ?_;exact⟨k+1,I (l8 HK.o),by go_num,HT,X5⟩
 ):σ:=h
def ay(h:σ:=by
 rw[show F9 none=((0,0),false)from rfl]at HD;have HF:=I (show es A X D=false by rw[HE.o];exact ek hlt (by rw[HG.o];rfl));go_wp2_with rfl;refine HD.mono ?_;rintro e w3 ⟨rfl,C0⟩;have X3:=I (X2.trans C0);clear C0 SE;have⟨E,hE⟩:=j7 (w3.alloc (SH #[U 0,U 0] 80));have XE:=I (show D4 w3 E by rw[hE];exact ZL);go_upto_region 5 with rfl;rw[<-hE];clear hE;have r7:D4 E E.drew:=D4.drew E;refine k6 (S:=(λw'=>D4 E w')) k8 ?_ (λr9=>?_)
 ·exact r7
 refine ks ⟨?_⟩;refine Mp ⟨?_⟩;refine tk 7 ?_;refine tk 8 ?_;refine tk 9 ?_;refine tk 10 ?_;refine ST k8 ?_ _;go_wp2;go_ret;exact⟨ag HF.symm,((B4.trans X3).trans XE).trans r7⟩
 ):σ:=h
def H3(h:σ:=by
 go_wp2;go_ret;exact⟨qq0 (by rw[HE.o,HA.o]),B4.trans HX.o⟩
 ):σ:=h
theorem Au{w:J}{a:o6}{na ca:Nat}{b:o6}{nb cb:Nat}{c:o6}{nc cc:Nat}(h:dD w a na ca A){xa:o6}{xn Pz:Nat}{X:o3}(hX:i8 w xa xn Pz X)
 {da:o6} {dn H:Nat} {D:o7} (hD:d6 w da dn H D) (hdn:na<=dn) (Z:∀i,i<na->Lp (A[i]?.getD [])<=70/\∀x∈A[i]?.getD [],-5000<=x/\x<=5000) :
 f9 283 #[JI a na ca b nb cb c nc cc,FB xa xn Pz,FB da dn H] w (ato (es A X D)):=by
 have K:=D4.alloc w (bT a na ca b nb cb c nc cc);refine kv K (h.ext K) (hX.ext K) (hD.ext K) Z λB4 HI JT Mb IE=>?_;have⟨Wn,QQ⟩:=h.ath;have⟨RA,VC⟩:=hD.ath;have Jc:=I h.hlen;have HE:=I (show es A X D=(List.range na).all (iQ A X D)by rw[vg,Jc.o]);unfold f9;go_in
 go_wp2
 go_loopg [14] na (λgk ii wr=>∃k:Nat,e9 (gk+k=na)/\ii=U k/\e9 ((List.range k).all (iQ A X D)=true)/\e9 (D4 (w.alloc (bT a na ca b nb cb c nc cc)) wr))
 ·exact FC
 obtain⟨k,HK,rfl,HA,HX⟩:=hrel;have hsz:=HX.size;rw[Mc]at hsz;by_cases hlt:k<na
 ·have⟨gb,L0,ra,rn,rc,UR,PL,Z⟩:=(HI.ext HX).at hlt;subst UR;have Kk:rn<=70:=by rw[<-Z.hlen];exact(IE k hlt).1
  have L8:=I (jN Z O);rw[gO (IE k hlt).2]at L8;go_wp2_with rfl;refine PP L8 λw2 v2 Is C9=>?_;obtain⟨a2,n2,c2,rfl,Pc⟩:=Is.var;have X2:=I (HX.trans C9);have HD:=I (iA Is.rats (JT.ext X2));have⟨dv,LB⟩:=j7 (Fs (aI (A[k]?.getD [])) X);have HG:=I (show iQ A X D k=decide (dv=some (D[k]?.getD 0,1))by rw[LB];rfl);rw[<-LB]at HD;clear LB;have⟨db,QR,hda,SE⟩:=(Mb.ext X2).at (show k<dn by omega);subst hda;generalize D[k]?.getD 0=d at HG SE;cases dv with
  | none =>
    exact ay
  | some r =>
    have qq0:=@cW;exact NH
 have E':na=k:=l8 HK.o;subst E';have qq0:=@ag;exact H3
end
section
variable{A:o4}{W:J}
section
variable{w:J}{a:o6}{na ca:Nat}{b:o6}{nb cb:Nat}{c:o6}{nc cc:Nat}{A:o4}{B:o7}{C:o3}
theorem dL(h:L6 w a na ca b nb cb c nc cc A B C)(ok:FT A B C=true):nc<=70/\na<=8/\nb=na/\(∀i,i<na->Lp (A[i]?.getD [])=nc)/\(∀i,i<na->Lp (A[i]?.getD [])<=70/\∀x∈A[i]?.getD [],-5000<=x/\x<=5000)/\∀x∈B,-5000<=x/\x<=5000:=by
 have l1:=h.a.hlen;have l2:=h.b.hlen;have l3:=h.c.hlen;rw[mJ]at ok;simp only[cM,cq,fp,eU,A8]at ok;obtain⟨h1,h2,h3,h4,Q,K⟩:=ok;have H:∀i,i<na->Lp (A[i]?.getD [])=nc/\∀x∈A[i]?.getD [],-5000<=x/\x<=5000:=by
  intro i hi;rw[In O,NE];have:=Q _ (cP (l:=A) (n:=i) O);exact⟨by omega,this.2⟩
 exact⟨by omega,by omega,by omega,λi hi=>(H i hi).1,λi hi=>⟨by have:=(H i hi).1;omega,(H i hi).2⟩,K⟩
theorem oT(h:L6 w a na ca b nb cb c nc cc A B C){xa:o6}{xn Pz:Nat}{X:o3}(hX:i8 w xa xn Pz X):
 f9 279 #[JI a na ca b nb cb c nc cc,FB xa xn Pz] w (ato (FT A B C&&eQ A B (Lp C) X)):=by
 have B9:=D4.alloc w (bT a na ca b nb cb c nc cc);refine kv B9 (h.ext B9) (hX.ext B9) h.c.hlen h.a.hlen λX2 H JT Ji Jc=>?_;have⟨FQ,IH⟩:=h.c.ath;have HO:=I (λok=>dL h ok);have HV:=I (fH H);cases D9:FT A B C
 ·rw[D9]at HV;(try unfold f9);go_in
  go_wp2_with rfl;refine i6 HV λw1 hx=>?_;exact Ni
 rw[D9]at HV;have aa:=I (HO D9);obtain⟨r1,r2,r3,_,_,_⟩:=HO.o D9;subst r3;have HN:=I (λ(w':J) (hx:D4 (w.alloc (bT a nb ca b nb cb c nc cc)) w')=>om (JT.ext hx) nc);have HR:=I (show(true&&eQ A B (Lp C) X)=((decide (Lp X=nc)&&LK X)&&es A X B)by unfold eQ;rw[Ji.o,wq,Bool.and_assoc]);cases hn:(decide (Lp X=nc)&&LK X)
 ·rw[hn]at HN HR;(try unfold f9);go_in
  go_wp2_with rfl;refine i6 HV λw1 hx=>?_;have K:w1.cell? (IM w 2)=some (FB c nc cc):=hx.o9 j9;have X3:=I hx;go_wp2_with rfl;refine i6 (HN _ X3) λw2 hx=>?_;have X1:=I ((X2.trans X3).trans hx);have qq0:=@ag;exact Ur
 rw[hn]at HN HR;(try unfold f9);go_in
 go_wp2_with rfl;refine i6 HV λw1 hx=>?_;have Z:w1.cell? (IM w 0)=some (FB a nb ca):=hx.o9 j9;have RD:w1.cell? (IM w 1)=some (FB b nb cb):=hx.o9 j9;have K:w1.cell? (IM w 2)=some (FB c nc cc):=hx.o9 j9;have X3:=I hx;go_wp2_with rfl;refine i6 (HN _ X3) λw2 hx=>?_;replace Z:=hx.o9 Z;replace RD:=hx.o9 RD;replace K:=hx.o9 K;have X1:=I (X3.trans hx);have HG:=I (Au (b:=b) (nb:=nb) (cb:=cb) (c:=c) (nc:=nc) (cc:=cc) (H.ext X1).a (JT.ext X1) (H.ext X1).b (m9 _) aa.2.2.2.2.1);go_wp2_with rfl;refine i6 HG λw3 hx=>?_;have ab:=I ((X2.trans X1).trans hx);go_wp2;go_ret;exact⟨ag (by rw[HR.o];rfl),ab⟩
end
structure Ug(w:J)(xa:o6)(xn xc:Nat)(ya:o6)(yn yc:Nat)(ra:o6)(rn rc:Nat)(r:I'):Prop where
 x:i8 w xa xn xc r.X
 y:i8 w ya yn yc r.Y
 Kc:i8 w ra rn rc r.Kc
theorem Ug.ext{w w':J}{xa:o6}{xn xc:Nat}{ya:o6}{yn yc:Nat}{ra:o6}{rn rc:Nat}{r:I'}(h:Ug w xa xn xc ya yn yc ra rn rc r)(hx:D4 w w'):Ug w' xa xn xc ya yn yc ra rn rc r:=⟨h.x.ext hx,h.y.ext hx,h.Kc.ext hx⟩
abbrev JA(r:I')(xa:o6)(xn xc:Nat)(ya:o6)(yn yc:Nat)(ra:o6)(rn rc:Nat):atY :=
 .agg #[.int .i64 r.status,FB xa xn xc,FB ya yn yc,FB ra rn rc,.int .i64 r.value.1,.int .i64 r.value.2,.int .i64 r.TD]
abbrev de(r:I')(xa:o6)(xn xc:Nat)(ya:o6)(yn yc:Nat)(ra:o6)(rn rc:Nat):Obj :=
 SH #[.int .i64 r.status,FB xa xn xc,FB ya yn yc,FB ra rn rc,.int .i64 r.value.1,.int .i64 r.value.2,.int .i64 r.TD] 128
theorem ki(h:∀i,i<Lp A->∀x∈A[i]?.getD [],-5000<=x/\x<=5000)(j:Nat):∀x∈FV A j,-5000<=x/\x<=5000:=by
 intro x hx;obtain⟨r,hr,rfl⟩:=xl.1 hx;obtain⟨i,hi,rfl⟩:=ZW.1 hr;by_cases H:j<A[i].length
 ·rw[In H];exact h i hi _ (by rw[In hi];exact cP _)
 rw[mq O];simp
theorem qK(A:o4)(j:Nat):Lp (FV A j)=Lp A:=by simp[FV]
theorem zE{Y C:o3}{j:Nat}(h:Fs Y (aI (FV A j))=none):az A Y C j=false:=by unfold az;rw[h]
theorem zF{Y C:o3}{j:Nat}{v c:o8}(h:Fs Y (aI (FV A j))=some v)(hc:C[j]?.getD (0,0)=c):az A Y C j=((FD c v).2&&decide (0<=(FD c v).1.1)):=by unfold az;rw[h,hc]
def nt(x y:Option (Int×Int))(v:o8):Bool:=match x,y with|some x,some y=>decide (x=y)&&decide (x=v)|_,_=>false
theorem yt(B:o7)(C:o3)(r:I'):ku B C r=nt (Fs C r.X) (Fs r.Y (aI B)) r.value:=rfl
theorem nu(x:Option (Int×Int))(v:o8):nt none x v=false/\nt x none v=false:=by cases x<;>exact⟨rfl,rfl⟩
theorem sU(K H Z Q v1 v2:Int):nt (some (K,H)) (some (Z,Q)) (v1,v2)=(((K == Z)&&(H == Q))&&((K == v1)&&(H == v2))):=by
 simp only[nt];rw[uu];simp
section
variable{w:J}{a:o6}{na ca:Nat}{b:o6}{nb cb:Nat}{c:o6}{nc cc:Nat}{A:o4}{B:o7}{C:o3}
 {xa:o6} {xn xc:Nat} {ya:o6} {yn yc:Nat} {ra:o6} {rn rc:Nat} {r:I'}
structure k7(w W:J)(a:o6)(na ca:Nat)(b:o6)(nb cb:Nat)(c:o6)(nc cc:Nat)(xa:o6)(xn xc:Nat)(ya:o6)(yn yc:Nat)(ra:o6)(rn rc:Nat)(r:I')(A:o4)(B:o7)(C:o3):Prop where
 ext:D4 ((w.alloc (bT a na ca b nb cb c nc cc)).alloc (de r xa xn xc ya yn yc ra rn rc)) W
 lp:L6 W a na ca b nb cb c nc cc A B C
 lr:Ug W xa xn xc ya yn yc ra rn rc r
theorem k7.zero(h:L6 w a na ca b nb cb c nc cc A B C)(H:Ug w xa xn xc ya yn yc ra rn rc r):k7 w ((w.alloc (bT a na ca b nb cb c nc cc)).alloc (de r xa xn xc ya yn yc ra rn rc)) a na ca b nb cb c nc cc xa xn xc ya yn yc ra rn rc r A B C :=
 ⟨So,(h.ext ZL).ext ZL,(H.ext ZL).ext ZL⟩
theorem k7.grow{W W':J}(h:k7 w W a na ca b nb cb c nc cc xa xn xc ya yn yc ra rn rc r A B C)(hx:D4 W W'):k7 w W' a na ca b nb cb c nc cc xa xn xc ya yn yc ra rn rc r A B C:=⟨h.ext.trans hx,h.lp.ext hx,h.lr.ext hx⟩
theorem k7.all{W:J}(h:k7 w W a na ca b nb cb c nc cc xa xn xc ya yn yc ra rn rc r A B C):D4 w W:=(ZL.trans ZL).trans h.ext
theorem k7.p{W:J}(h:k7 w W a na ca b nb cb c nc cc xa xn xc ya yn yc ra rn rc r A B C):W.cell? (IM w 0)=some (FB a na ca)/\W.cell? (IM w 1)=some (FB b nb cb)/\W.cell? (IM w 2)=some (FB c nc cc) :=
 ⟨h.ext.o9 j9,h.ext.o9 j9,h.ext.o9 j9⟩
theorem k7.q{W:J}(h:k7 w W a na ca b nb cb c nc cc xa xn xc ya yn yc ra rn rc r A B C):W.cell? (IM (w+1) 0)=some (U r.status)/\W.cell? (IM (w+1) 1)=some (FB xa xn xc)/\W.cell? (IM (w+1) 2)=some (FB ya yn yc)/\W.cell? (IM (w+1) 3)=some (FB ra rn rc)/\W.cell? (IM (w+1) 4)=some (U r.value.1)/\W.cell? (IM (w+1) 5)=some (U r.value.2) :=
 ⟨h.ext.o9 j9,h.ext.o9 j9,h.ext.o9 j9,h.ext.o9 j9,h.ext.o9 j9,h.ext.o9 j9⟩
def td(h:σ:=by
 go_wp2;go_ret;exact⟨ag (by rw[HE.o];rfl),T2.all⟩
 ):σ:=h
def my(h:σ:=by
 exact⟨0,I O,rfl,I rfl,T2⟩
 ):σ:=h
theorem BI(h:L6 w a na ca b nb cb c nc cc A B C)(h':Ug w xa xn xc ya yn yc ra rn rc r)(ok:FT A B C=true)(hs:r.status=1):
 f9 207 #[JI a na ca b nb cb c nc cc,JA r xa xn xc ya yn yc ra rn rc] w (ato (aQ az A B C r)):=by
 have⟨r1,r2,r3,r4,r5,r6⟩:=dL h ok;subst r3;have T0:=I (k7.zero h h');have⟨F7,Mz⟩:=h'.y.ath;have⟨FQ,IH⟩:=h.c.ath;have⟨Gm,F0⟩:=h.b.ath;refine TS h.c.hlen h.b.hlen h.a.hlen h'.y.hlen (show aQ az A B C r=(eQ A B (Lp C) r.X&&(decide (Lp r.Y=Lp B)&&((List.range (Lp C)).all (az A r.Y C)&&ku B C r)))by unfold aQ;rw[i7 hs]) r4 (λj=>ki (A:=A) (λi hi=>(r5 i (l8 h.a.hlen)).2) j) r6 λJi Hj Jc Tu HE Kd Sf Kt=>?_;obtain⟨st,K,H,rr,rv,rp⟩:=r;obtain⟨v1,v2⟩:=rv;simp only at hs HE Tu;subst hs;have HV:=I (fH T0.lp);rw[ok]at HV;have Ux:=I (λ(W:J) (t:k7 w W a nb ca b nb cb c nc cc xa xn xc ya yn yc ra rn rc ⟨1,K,H,rr,(v1,v2),rp⟩ A B C)=>oT t.lp t.lr.x);rw[ok]at Ux;simp only[wq]at Ux;cases hf:eQ A B (Lp C) K
 ·rw[hf]at Ux HE;(try unfold f9);go_in
  go_wp2_with rfl;refine i6 HV λw1 hx=>?_;have T1:=I (T0.grow hx);have⟨p0,p1,p2⟩:=T1.p;have⟨q0,q1,q2,q3,q4,q5⟩:=T1.q;go_wp2_with rfl;refine i6 (Ux _ T1) λw2 hx=>?_;have T2:=I (T1.grow hx);exact td
 rw[hf]at Ux HE;by_cases O9:yn=nb
 ·subst O9;have Rt:((yn:Int) != (yn:Int))=false:=by simp
  have Iu:=I (show aQ az A B C ⟨1,K,H,rr,(v1,v2),rp⟩=((List.range nc).all (az A H C)&&ku B C ⟨1,K,H,rr,(v1,v2),rp⟩)by rw[HE.o,Tu.o,Hj.o,Ji.o,bl rfl];rfl);(try unfold f9);go_in
  go_wp2_with rfl;refine i6 HV λw1 hx=>?_;have T1:=I (T0.grow hx);have⟨p0,p1,p2⟩:=T1.p;have⟨q0,q1,q2,q3,q4,q5⟩:=T1.q;go_wp2_with rfl;refine i6 (Ux _ T1) λw2 hx=>?_;have T2:=I (T1.grow hx);have⟨p0,p1,p2⟩:=T2.p;have⟨q0,q1,q2,q3,q4,q5⟩:=T2.q;go_wp2
  go_loopg [46] nc (λgk ii wr=>∃k:Nat,e9 (gk+k=nc)/\ii=U k/\e9 ((List.range k).all (az A H C)=true)/\e9 (k7 w wr a yn ca b yn cb c nc cc xa xn xc ya yn yc ra rn rc ⟨1,K,H,rr,(v1,v2),rp⟩ A B C))
  ·exact my
  obtain⟨k,HK,rfl,HA,T⟩:=hrel;by_cases hlt:k<nc
  ·have⟨zb,Gd,cx,cy,Lf,FI,Hl,Mh⟩:=T.lp.c.at hlt;subst Lf;have LD:=I FI;have⟨E,hE⟩:=j7 (wr.alloc (SH #[U cx,U cy] 80));have Ic:D4 wr E:=by rw[hE];exact ZL
   have TE:=I (T.grow Ic);have Mo:=I (show ai wr E wr cx cy by rw[hE];exact ai.new So _ _);go_upto_region 10 with rfl;rw[<-hE];clear hE;have⟨p0,p1,p2⟩:=TE.p;have⟨q0,q1,q2,q3,q4,q5⟩:=TE.q;have HCL:=I (qK A k);have⟨dv,LB⟩:=j7 (Fs H (aI (FV A k)));have SZ:=I LB.symm;obtain⟨d1,d2,OL,hdd⟩:∃x y ok,F9 dv=((x,y),ok):=⟨_,_,_,rfl⟩;have Mb:=I hdd;have SQ:e9 (eV (FV A k)=aI (FV A k)):=gO (Sf k);clear LB;go_upto_region 10 with rfl
   go_cut [7,8] (λsx so wx=>∃g:Nat,sx=ats (some (IM g 0))/\so=ato OL/\e9 (ai E wx g d1 d2))
   case first =>
    have r7:=D4.drew E;have Fu:D4 E (E.alloc (SH #[U 0,U 0] 80)).drew:=ZL.trans fl;have r8:=I (λ(w':J) (h:D4 E w')=>(an (h.o9 p0) (an (h.o9 p1) (an (h.o9 p2) (an (h.o9 q2) h)))))
    go_region_held3 (λw'=>w'.cell? (IM w 0)=some (FB a yn ca)/\w'.cell? (IM w 1)=some (FB b yn cb)/\w'.cell? (IM w 2)=some (FB (some (IM zb Gd)) nc cc)/\w'.cell? (IM (w+1) 2)=some (FB ya yn yc)/\D4 E w')
     (exact yg)
     (first
       | ((with_reducible refine(xO (b:=b) (nb:=yn) (cb:=cb) (c:=some (IM zb Gd)) (nc:=nc) (cc:=cc) (TE.o.lp.a.ext BB) Kd.o hlt O O).mono ?_)
          rintro e w3 ⟨⟨v3,rfl,Gw⟩,D3⟩;obtain⟨a3,n3,c3,rfl,Nw⟩:=Gw.var
          try with_reducible first|have A7:=ai.grow A7 D3|have A7:=ai.Fk D3|have A7:=ai.Fq r7 D3
          try(have Ko:=A7.c0;have Kn:=A7.c1;have L4:=A7.free)
          have r7:D4 E w3:=TP;have G7:=r7.size)
       | ((with_reducible refine(jN My Uv).mono ?_)
          rw[SQ.o];rintro e w4 ⟨⟨v4,rfl,Jd⟩,E7⟩;obtain⟨a4,n4,c4,rfl,Qq⟩:=Jd.var
          try with_reducible first|have A7:=ai.grow A7 E7|have A7:=ai.Fk E7|have A7:=ai.Fq r7 E7
          try(have Ko:=A7.c0;have Kn:=A7.c1;have L4:=A7.free)
          have r7:D4 E w4:=pv;have G7:=r7.size)
       | ((with_reducible refine(iA (TE.o.lr.y.ext BB) Sw).mono ?_)
          rw[SZ.o,Mb.o];rintro e w5 ⟨rfl,B7⟩
          try with_reducible first|have A7:=ai.grow A7 B7|have A7:=ai.Fk B7|have A7:=ai.Fq r7 B7
          try(have Ko:=A7.c0;have Kn:=A7.c1;have L4:=A7.free)
          have r7:D4 E w5:=TH;have G7:=r7.size))
    all_goals(exact yx)
   obtain⟨g,rfl,rfl,FJ⟩:=hcut;have GL:=I (Mo.grow FJ.ext);have TW:=I (TE.grow FJ.ext);have c0:=GL.c0;have c1:=GL.c1;have g0:=FJ.c0;have g1':=FJ.c1;obtain⟨l1,l2,lok,T5⟩:∃x y ok,FD (cx,cy) (d1,d2)=((x,y),ok):=⟨_,_,_,rfl⟩;have HSB:=I (ng cx cy d1 d2 wc);rw[T5]at HSB;have Gq:=I T5;go_wp2_with rfl;refine i6 HSB λw6 hx=>?_;have X2:=I ((TW.grow hx).grow (D4.alloc _ (SH #[U l1,U l2] 80)));cases dv with
   | none =>
     have LY:OL=false:=by have:=Mb.o;simp only[F9]at this;simpa using (IR Prod.snd this).symm
     subst LY;have HF:=I (show aQ az A B C ⟨1,K,H,rr,(v1,v2),rp⟩=false by rw[Iu.o,ek hlt (zE SZ)];rfl);go_wp2;go_ret;exact⟨ag HF.symm,X2.all⟩
   | some dvv =>
     have LY:OL=true:=by have:=Mb.o;simp only[F9]at this;simpa using (IR Prod.snd this).symm
     have NP:dvv=(d1,d2):=by have:=Mb.o;simp only[F9]at this;simpa using IR Prod.fst this
     subst LY NP;have Q6:=I (show az A H C k=(lok&&decide (0<=l1))by rw[zF SZ.o LD.o,Gq.o]);cases lok
     ·have HF:=I (show aQ az A B C ⟨1,K,H,rr,(v1,v2),rp⟩=false by rw[Iu.o,ek hlt (by rw[Q6.o];rfl)];rfl);go_wp2;go_ret;exact⟨ag HF.symm,X2.all⟩
     by_cases hl0:l1<0
     ·have HF:=I (show aQ az A B C ⟨1,K,H,rr,(v1,v2),rp⟩=false by rw[Iu.o,ek hlt (by rw[Q6.o,RK O];rfl)];rfl);go_wp2;go_ret;exact⟨ag HF.symm,X2.all⟩
     have HT:=I (show(List.range (k+1)).all (az A H C)=true by rw[jI,HA.o,Q6.o,bl O];rfl);exact S7
  have E':nc=k:=l8 HK.o;subst E';have QB:=I (show aQ az A B C ⟨1,K,H,rr,(v1,v2),rp⟩=ku B C ⟨1,K,H,rr,(v1,v2),rp⟩by rw[Iu.o,HA.o];rfl);have⟨p0,p1,p2⟩:=T.p;have⟨q0,q1,q2,q3,q4,q5⟩:=T.q;have⟨dx,R2⟩:=j7 (Fs C K);have⟨dy,T7⟩:=j7 (Fs H (aI B));have HM:=I (show ku B C ⟨1,K,H,rr,(v1,v2),rp⟩=nt dx dy (v1,v2)by rw[yt,R2,T7]);obtain⟨x1,x2,xok,RY⟩:∃x y ok,F9 dx=((x,y),ok):=⟨_,_,_,rfl⟩;obtain⟨y1,y2,Rn,Y0⟩:∃x y ok,F9 dy=((x,y),ok):=⟨_,_,_,rfl⟩;refine Op RY Y0 (iA T.lp.c T.lr.x) T7.symm λJT R9 Tx HDY=>?_;rw[<-R2,RY]at Tx;have E6:e9 (eV B=aI B):=gO Kt;clear R2 T7;go_wp2_with rfl;refine i6 Tx λw3 hx=>?_;have⟨E,hE⟩:=j7 (w3.alloc (SH #[U x1,U x2] 80));have Ic:D4 w3 E:=by rw[hE];exact ZL
  have TE:=I ((T.grow hx).grow Ic);have Mo:=I (show ai w3 E w3 x1 x2 by rw[hE];exact ai.new So _ _);go_upto_region 16 with rfl;rw[<-hE];clear hE;have⟨p0,p1,p2⟩:=TE.p;have⟨q0,q1,q2,q3,q4,q5⟩:=TE.q;go_upto_region 16 with rfl
  go_cut [13,14] (λsx so wx=>∃g:Nat,sx=ats (some (IM g 0))/\so=ato Rn/\e9 (ai E wx g y1 y2))
  case first =>
   have r7:=D4.drew E;have Fu:D4 E (E.alloc (SH #[U 0,U 0] 80)).drew:=ZL.trans fl;have r8:=I (λ(w':J) (h:D4 E w')=>(an (h.o9 p1) (an (h.o9 q2) h)))
   go_region_held3 (λw'=>w'.cell? (IM w 1)=some (FB b yn cb)/\w'.cell? (IM (w+1) 2)=some (FB ya yn yc)/\D4 E w')
    (exact yg)
    (first
      | ((with_reducible refine(jN (TE.o.lp.b.ext BB) O).mono ?_)
         rw[E6.o];rintro e w4 ⟨⟨v4,rfl,Jd⟩,E7⟩;obtain⟨a4,n4,c4,rfl,Qq⟩:=Jd.var
         try with_reducible first|have A7:=ai.grow A7 E7|have A7:=ai.Fk E7|have A7:=ai.Fq r7 E7
         try(have Ko:=A7.c0;have Kn:=A7.c1;have L4:=A7.free)
         have r7:D4 E w4:=pv;have G7:=r7.size)
      | ((with_reducible refine(iA (TE.o.lr.y.ext BB) Sw).mono ?_)
         rw[HDY.o,R9.o];rintro e w5 ⟨rfl,B7⟩
         try with_reducible first|have A7:=ai.grow A7 B7|have A7:=ai.Fk B7|have A7:=ai.Fq r7 B7
         try(have Ko:=A7.c0;have Kn:=A7.c1;have L4:=A7.free)
         have r7:D4 E w5:=TH;have G7:=r7.size))
   all_goals(exact yx)
  obtain⟨g,rfl,rfl,FJ⟩:=hcut;have GL:=I (Mo.grow FJ.ext);have TW:=I (TE.grow FJ.ext);have⟨p0,p1,p2⟩:=TW.p;have⟨q0,q1,q2,q3,q4,q5⟩:=TW.q;have c0:=GL.c0;have c1:=GL.c1;have g0:=FJ.c0;have g1':=FJ.c1;cases dx with
  | none =>
    have LY:xok=false:=by have:=JT.o;simp only[F9]at this;simpa using (IR Prod.snd this).symm
    subst LY;go_wp2;go_ret;exact⟨ag (by rw[QB.o,HM.o,(nu _ _).1]),TW.all⟩
  | some xv =>
    have LY:xok=true:=by have:=JT.o;simp only[F9]at this;simpa using (IR Prod.snd this).symm
    have NP:xv=(x1,x2):=by have:=JT.o;simp only[F9]at this;simpa using IR Prod.fst this
    subst LY NP;cases dy with
    | none =>
      have LY:Rn=false:=by have:=R9.o;simp only[F9]at this;simpa using (IR Prod.snd this).symm
      subst LY;go_wp2;go_ret;exact⟨ag (by rw[QB.o,HM.o,(nu _ _).2]),TW.all⟩
    | some yv =>
      have LY:Rn=true:=by have:=R9.o;simp only[F9]at this;simpa using (IR Prod.snd this).symm
      have NP:yv=(y1,y2):=by have:=R9.o;simp only[F9]at this;simpa using IR Prod.fst this
      subst LY NP;have OV:=I (show aQ az A B C ⟨1,K,H,rr,(v1,v2),rp⟩=(((x1 == y1)&&(x2 == y2))&&((x1 == v1)&&(x2 == v2)))by rw[QB.o,HM.o,sU]);cases h1:(x1 == y1)
      all_goals
       cases h2:(x2 == y2)
      all_goals
       have LG:=I OV.o;rw[h1,h2]at LG
      all_goals try(
       have HF:=I (show aQ az A B C ⟨1,K,H,rr,(v1,v2),rp⟩=false by rw[LG.o];rfl);go_wp2;go_ret;exact⟨ag HF.symm,TW.all⟩)
      cases h3:(x1 == v1)
      all_goals
       cases h4:(x2 == v2)
      all_goals
       rw[h3,h4]at LG;go_wp2;go_ret;exact⟨ag (by rw[LG.o];rfl),TW.all⟩
 have Rt:((yn:Int) != (nb:Int))=true:=t8;have HF:=I (show aQ az A B C ⟨1,K,H,rr,(v1,v2),rp⟩=false by rw[HE.o,Tu.o,Hj.o,RK O9];rfl);(try unfold f9);go_in
 go_wp2_with rfl;refine i6 HV λw1 hx=>?_;have T1:=I (T0.grow hx);have⟨p0,p1,p2⟩:=T1.p;have⟨q0,q1,q2,q3,q4,q5⟩:=T1.q;go_wp2_with rfl;refine i6 (Ux _ T1) λw2 hx=>?_;have T2:=I (T1.grow hx);have⟨p0,p1,p2⟩:=T2.p;have⟨q0,q1,q2,q3,q4,q5⟩:=T2.q;go_wp2;go_ret;exact⟨ag HF.symm,T2.all⟩
end
def Vf(x:Option (Int×Int)):Bool:=match x with|none=>false|some v=>decide (v.1<=0)
def XY(x:Option (Int×Int)):Bool:=match x with|none=>false|some v=>decide (0<v.1)
def Yn(x:Option (Int×Int)):Bool:=match x with|none=>false|some v=>decide (v.1<0)
def Sx(A:o4)(Y:o3)(j:Nat):Bool:=Vf (Fs Y (aI (FV A j)))
theorem th(A:o4)(B:o7)(n:Nat)(Y:o3):pO A B n Y=((List.range n).all (Sx A Y)&&XY (Fs Y (aI B))):=rfl
theorem AS(A:o4)(B:o7)(C:o3)(Kc:o3):TJ A B C Kc=((decide (Lp Kc=Lp C)&&LK Kc)&&(es A Kc (List.replicate (Lp B) 0)&&Yn (Fs C Kc))):=by
 unfold TJ;rw[Bool.and_assoc];rfl
section
variable{w:J}{a:o6}{na ca:Nat}{b:o6}{nb cb:Nat}{c:o6}{nc cc:Nat}{A:o4}{B:o7}{C:o3}
 {xa:o6} {xn xc:Nat} {ya:o6} {yn yc:Nat} {ra:o6} {rn rc:Nat} {r:I'}
def K'(h:σ:=by
 go_wp2;go_ret;exact⟨ag (by rw[QB.o];rfl),X2.all⟩
 ):σ:=h
def wa(h:σ:=by
 go_wp2;go_ret;exact⟨ag (by rw[QB.o];exact(bl JB).symm),X2.all⟩
 ):σ:=h
theorem BJ(h:L6 w a na ca b nb cb c nc cc A B C)(h':Ug w xa xn xc ya yn yc ra rn rc r)(ok:FT A B C=true)(hs:r.status=2):
 f9 207 #[JI a na ca b nb cb c nc cc,JA r xa xn xc ya yn yc ra rn rc] w (ato (aQ az A B C r)):=by
 have⟨r1,r2,r3,r4,r5,r6⟩:=dL h ok;subst r3;have T0:=I (k7.zero h h');have⟨F7,Mz⟩:=h'.y.ath;have⟨FQ,IH⟩:=h.c.ath;have⟨Gm,F0⟩:=h.b.ath;refine TS h.c.hlen h.b.hlen h.a.hlen h'.y.hlen (show aQ az A B C r=(decide (Lp r.Y=Lp B)&&pO A B (Lp C) r.Y)by unfold aQ;rw[f8 O,i7 hs]) r4 (λj=>ki (A:=A) (λi hi=>(r5 i (l8 h.a.hlen)).2) j) r6 λJi Hj Jc Tu HE Kd Sf Kt=>?_;obtain⟨st,rX,H,K,rv,rp⟩:=r;obtain⟨v1,v2⟩:=rv;simp only at hs HE Tu;subst hs;have HV:=I (fH T0.lp);rw[ok]at HV;have Sb:((2:Int) == 1)=false:=by decide
 by_cases O9:yn=nb
 ·subst O9;have Rt:((yn:Int) != (yn:Int))=false:=by simp
  have Iu:=I (show aQ az A B C ⟨2,rX,H,K,(v1,v2),rp⟩=((List.range nc).all (Sx A H)&&XY (Fs H (aI B)))by rw[HE.o,Tu.o,Hj.o,Ji.o,bl rfl,th];rfl);(try unfold f9);go_in
  go_wp2_with rfl;refine i6 HV λw1 hx=>?_;have T2:=I (T0.grow hx);have⟨p0,p1,p2⟩:=T2.p;have⟨q0,q1,q2,q3,q4,q5⟩:=T2.q;go_wp2
  go_loopg [123] nc (λgk ii wr=>∃k:Nat,e9 (gk+k=nc)/\ii=U k/\e9 ((List.range k).all (Sx A H)=true)/\e9 (k7 w wr a yn ca b yn cb c nc cc xa xn xc ya yn yc ra rn rc ⟨2,rX,H,K,(v1,v2),rp⟩ A B C))
  ·exact my
  obtain⟨k,HK,rfl,HA,T⟩:=hrel;by_cases hlt:k<nc
  ·go_upto_region 24 with rfl;have⟨p0,p1,p2⟩:=T.p;have⟨q0,q1,q2,q3,q4,q5⟩:=T.q;have HCL:=I (qK A k);have⟨dv,LB⟩:=j7 (Fs H (aI (FV A k)));have SZ:=I LB.symm;obtain⟨d1,d2,OL,hdd⟩:∃x y ok,F9 dv=((x,y),ok):=⟨_,_,_,rfl⟩;refine Fn hdd (show eV (FV A k)=aI (FV A k)from gO (Sf k)) (show Sx A H k=Vf dv by unfold Sx;rw[LB]) λMb SQ Sc=>?_;clear LB;go_upto_region 24 with rfl
   go_cut [16,17] (λsx so wx=>∃g:Nat,sx=ats (some (IM g 0))/\so=ato OL/\e9 (ai wr wx g d1 d2))
   case first =>
    have r7:=D4.drew wr;have Fu:D4 wr (wr.alloc (SH #[U 0,U 0] 80)).drew:=ZL.trans fl;have r8:=I (λ(w':J) (h:D4 wr w')=>(an (h.o9 p0) (an (h.o9 p1) (an (h.o9 p2) (an (h.o9 q2) h)))))
    go_region_held3 (λw'=>w'.cell? (IM w 0)=some (FB a yn ca)/\w'.cell? (IM w 1)=some (FB b yn cb)/\w'.cell? (IM w 2)=some (FB c nc cc)/\w'.cell? (IM (w+1) 2)=some (FB ya yn yc)/\D4 wr w')
     (exact yg)
     (first
       | ((with_reducible refine(xO (b:=b) (nb:=yn) (cb:=cb) (c:=c) (nc:=nc) (cc:=cc) (T.o.lp.a.ext BB) Kd.o hlt O O).mono ?_)
          rintro e w3 ⟨⟨v3,rfl,Gw⟩,D3⟩;obtain⟨a3,n3,c3,rfl,Nw⟩:=Gw.var
          try with_reducible first|have A7:=ai.grow A7 D3|have A7:=ai.Fk D3|have A7:=ai.Fq r7 D3
          try(have Ko:=A7.c0;have Kn:=A7.c1;have L4:=A7.free)
          have r7:D4 wr w3:=TP;have G7:=r7.size)
       | ((with_reducible refine(jN My Uv).mono ?_)
          rw[SQ.o];rintro e w4 ⟨⟨v4,rfl,Jd⟩,E7⟩;obtain⟨a4,n4,c4,rfl,Qq⟩:=Jd.var
          try with_reducible first|have A7:=ai.grow A7 E7|have A7:=ai.Fk E7|have A7:=ai.Fq r7 E7
          try(have Ko:=A7.c0;have Kn:=A7.c1;have L4:=A7.free)
          have r7:D4 wr w4:=pv;have G7:=r7.size)
       | ((with_reducible refine(iA (T.o.lr.y.ext BB) Sw).mono ?_)
          rw[SZ.o,Mb.o];rintro e w5 ⟨rfl,B7⟩
          try with_reducible first|have A7:=ai.grow A7 B7|have A7:=ai.Fk B7|have A7:=ai.Fq r7 B7
          try(have Ko:=A7.c0;have Kn:=A7.c1;have L4:=A7.free)
          have r7:D4 wr w5:=TH;have G7:=r7.size))
    all_goals(exact yx)
   obtain⟨g,rfl,rfl,FJ⟩:=hcut;have X2:=I (T.grow FJ.ext);have g0:=FJ.c0;cases dv with
   | none =>
     have LY:OL=false:=by have:=Mb.o;simp only[F9]at this;simpa using (IR Prod.snd this).symm
     subst LY;have HF:=I (show aQ az A B C ⟨2,rX,H,K,(v1,v2),rp⟩=false by rw[Iu.o,ek hlt (by rw[Sc.o];rfl)];rfl);go_wp2;go_ret;exact⟨ag HF.symm,X2.all⟩
   | some dvv =>
     have LY:OL=true:=by have:=Mb.o;simp only[F9]at this;simpa using (IR Prod.snd this).symm
     have NP:dvv=(d1,d2):=by have:=Mb.o;simp only[F9]at this;simpa using IR Prod.fst this
     subst LY NP;by_cases hl0:d1 > 0
     ·have HF:=I (show aQ az A B C ⟨2,rX,H,K,(v1,v2),rp⟩=false by rw[Iu.o,ek hlt (by rw[Sc.o];exact RK O)];rfl);go_wp2;go_ret;exact⟨ag HF.symm,X2.all⟩
     have HT:=I (show(List.range (k+1)).all (Sx A H)=true by rw[jI,HA.o,Sc.o,wq];exact bl O);exact S7
  have E':nc=k:=l8 HK.o;subst E';have QB:=I (show aQ az A B C ⟨2,rX,H,K,(v1,v2),rp⟩=XY (Fs H (aI B))by rw[Iu.o,HA.o];rfl);have⟨dy,T7⟩:=j7 (Fs H (aI B));rw[<-T7]at QB;obtain⟨y1,y2,Rn,Y0⟩:∃x y ok,F9 dy=((x,y),ok):=⟨_,_,_,rfl⟩;refine Fn Y0 T7.symm (show eV B=aI B from gO Kt) λR9 HDY E6=>?_;clear T7;go_upto_region 28 with rfl;have⟨p0,p1,p2⟩:=T.p;have⟨q0,q1,q2,q3,q4,q5⟩:=T.q;go_upto_region 28 with rfl
  go_cut [18,19] (λsx so wx=>∃g:Nat,sx=ats (some (IM g 0))/\so=ato Rn/\e9 (ai wr wx g y1 y2))
  case first =>
   have r7:=D4.drew wr;have Fu:D4 wr (wr.alloc (SH #[U 0,U 0] 80)).drew:=ZL.trans fl;have r8:=I (λ(w':J) (h:D4 wr w')=>(an (h.o9 p1) (an (h.o9 q2) h)))
   go_region_held3 (λw'=>w'.cell? (IM w 1)=some (FB b yn cb)/\w'.cell? (IM (w+1) 2)=some (FB ya yn yc)/\D4 wr w')
    (exact yg)
    (first
      | ((with_reducible refine(jN (T.o.lp.b.ext BB) O).mono ?_)
         rw[E6.o];rintro e w4 ⟨⟨v4,rfl,Jd⟩,E7⟩;obtain⟨a4,n4,c4,rfl,Qq⟩:=Jd.var
         try with_reducible first|have A7:=ai.grow A7 E7|have A7:=ai.Fk E7|have A7:=ai.Fq r7 E7
         try(have Ko:=A7.c0;have Kn:=A7.c1;have L4:=A7.free)
         have r7:D4 wr w4:=pv;have G7:=r7.size)
      | ((with_reducible refine(iA (T.o.lr.y.ext BB) Sw).mono ?_)
         rw[HDY.o,R9.o];rintro e w5 ⟨rfl,B7⟩
         try with_reducible first|have A7:=ai.grow A7 B7|have A7:=ai.Fk B7|have A7:=ai.Fq r7 B7
         try(have Ko:=A7.c0;have Kn:=A7.c1;have L4:=A7.free)
         have r7:D4 wr w5:=TH;have G7:=r7.size))
   all_goals(exact yx)
  obtain⟨g,rfl,rfl,FJ⟩:=hcut;have X2:=I (T.grow FJ.ext);have g0:=FJ.c0;cases dy with
  | none =>
    have LY:Rn=false:=by have:=R9.o;simp only[F9]at this;simpa using (IR Prod.snd this).symm
    subst LY;exact K'
  | some yv =>
    have LY:Rn=true:=by have:=R9.o;simp only[F9]at this;simpa using (IR Prod.snd this).symm
    have NP:yv=(y1,y2):=by have:=R9.o;simp only[F9]at this;simpa using IR Prod.fst this
    subst LY NP;by_cases JB:y1 > 0
    ·exact wa
    go_wp2;go_ret;exact⟨ag (by rw[QB.o];exact(RK O).symm),X2.all⟩
 have Rt:((yn:Int) != (nb:Int))=true:=t8;have HF:=I (show aQ az A B C ⟨2,rX,H,K,(v1,v2),rp⟩=false by rw[HE.o,Tu.o,Hj.o,RK O9];rfl);(try unfold f9);go_in
 go_wp2_with rfl;refine i6 HV λw1 hx=>?_;have T2:=I (T0.grow hx);have⟨p0,p1,p2⟩:=T2.p;have⟨q0,q1,q2,q3,q4,q5⟩:=T2.q;go_wp2;go_ret;exact⟨ag HF.symm,T2.all⟩
end
section
variable{w:J}{a:o6}{na ca:Nat}{b:o6}{nb cb:Nat}{c:o6}{nc cc:Nat}{A:o4}{B:o7}{C:o3}
 {xa:o6} {xn xc:Nat} {ya:o6} {yn yc:Nat} {ra:o6} {rn rc:Nat} {r:I'}
theorem BK(h:L6 w a na ca b nb cb c nc cc A B C)(h':Ug w xa xn xc ya yn yc ra rn rc r)(ok:FT A B C=true)(hs:r.status=3):
 f9 207 #[JI a na ca b nb cb c nc cc,JA r xa xn xc ya yn yc ra rn rc] w (ato (aQ az A B C r)):=by
 have⟨r1,r2,r3,r4,r5,r6⟩:=dL h ok;subst r3;have T0:=I (k7.zero h h');have⟨F7,Mz⟩:=h'.y.ath;have⟨FQ,IH⟩:=h.c.ath;have⟨Gm,F0⟩:=h.b.ath;refine v8 h.c.hlen h.b.hlen h.a.hlen h'.y.hlen (show aQ az A B C r=(eQ A B (Lp C) r.X&&TJ A B C r.Kc)by unfold aQ;rw[f8 O,f8 O,i7 hs]) r4 r5 (λj=>ki (A:=A) (λi hi=>(r5 i (l8 h.a.hlen)).2) j) r6 λJi Hj Jc Tu aa Kd Lv Sf Kt=>?_;obtain⟨st,rX,rY,rr,rv,rp⟩:=r;obtain⟨v1,v2⟩:=rv;simp only at hs aa Tu;subst hs;have HV:=I (fH T0.lp);rw[ok]at HV;have Ux:=I (λ(W:J) (t:k7 w W a nb ca b nb cb c nc cc xa xn xc ya yn yc ra rn rc ⟨3,rX,rY,rr,(v1,v2),rp⟩ A B C)=>oT t.lp t.lr.x);rw[ok]at Ux;simp only[wq]at Ux;have JE:((3:Int) == 1)=false:=by decide
 have IN:((3:Int) == 2)=false:=by decide
 cases hf:eQ A B (Lp C) rX
 ·rw[hf]at Ux aa;(try unfold f9);go_in
  go_wp2_with rfl;refine i6 HV λw1 hx=>?_;have Z:=I (T0.grow hx);have⟨p0,p1,p2⟩:=Z.p;have⟨q0,q1,q2,q3,q4,q5⟩:=Z.q;go_upto_region 31 with rfl;have H:=D4.drew w1;refine k6 (S:=(λw'=>w'.cell? (IM w 0)=some (FB a nb ca)/\w'.cell? (IM w 1)=some (FB b nb cb)/\w'.cell? (IM w 2)=some (FB c nc cc)/\w'.cell? (IM (w+1) 1)=some (FB xa xn xc)/\w'.cell? (IM (w+1) 3)=some (FB ra rn rc)/\D4 w1 w')) k8 ?_ (λr9=>?_)
  ·exact⟨H.o9 p0,H.o9 p1,H.o9 p2,H.o9 q1,H.o9 q3,H⟩
  refine ks ⟨?_⟩;refine rd 3 λK hK=>?_;go_simp
  (go_at_call 279;refine i6 (Ux _ (Z.grow H)) λw3 C0=>?_;have H:=H.trans C0)
  go_wp2_with rfl;refine KO (an (H.o9 p0) (an (H.o9 p1) (an (H.o9 p2) (an (H.o9 q1) (an (H.o9 q3) H))))) λr9=>?_;refine VU ⟨?_⟩;refine O5 ⟨?_⟩;refine C2 ⟨?_⟩;refine tk 23 ?_;refine tk 24 ?_;refine ST k8 ?_ _;go_wp2;go_ret;exact⟨ag (by rw[aa.o];rfl),(Z.grow H).all⟩
 rw[hf]at Ux aa;have HE:=I (show aQ az A B C ⟨3,rX,rY,rr,(v1,v2),rp⟩=((decide (Lp rr=nc)&&LK rr)&&(es A rr (List.replicate nb 0)&&Yn (Fs C rr)))by rw[aa.o,AS,Ji.o,Hj.o,wq]);have L9:=I (λ(W:J) (t:k7 w W a nb ca b nb cb c nc cc xa xn xc ya yn yc ra rn rc ⟨3,rX,rY,rr,(v1,v2),rp⟩ A B C)=>om t.lr.Kc nc);cases hn:(decide (Lp rr=nc)&&LK rr)
 ·rw[hn]at HE;simp only[hn]at L9;(try unfold f9);go_in
  go_wp2_with rfl;refine i6 HV λw1 hx=>?_;have Z:=I (T0.grow hx);have⟨p0,p1,p2⟩:=Z.p;have⟨q0,q1,q2,q3,q4,q5⟩:=Z.q;go_upto_region 31 with rfl;have H:=D4.drew w1;refine k6 (S:=(λw'=>w'.cell? (IM w 0)=some (FB a nb ca)/\w'.cell? (IM w 1)=some (FB b nb cb)/\w'.cell? (IM w 2)=some (FB c nc cc)/\w'.cell? (IM (w+1) 1)=some (FB xa xn xc)/\w'.cell? (IM (w+1) 3)=some (FB ra rn rc)/\D4 w1 w')) k8 ?_ (λr9=>?_)
  ·exact⟨H.o9 p0,H.o9 p1,H.o9 p2,H.o9 q1,H.o9 q3,H⟩
  refine ks ⟨?_⟩;refine rd 3 λK hK=>?_;go_simp
  (go_at_call 279;refine i6 (Ux _ (Z.grow H)) λw3 C0=>?_;have H:=H.trans C0)
  go_wp2_with rfl;refine KO (an (H.o9 p0) (an (H.o9 p1) (an (H.o9 p2) (an (H.o9 q1) (an (H.o9 q3) H))))) λr9=>?_;refine VU ⟨?_⟩;refine rd 11 λK hK=>?_;go_simp
  (go_at_call 282;refine i6 (L9 _ (Z.grow H)) λw4 E4=>?_;have H:=H.trans E4)
  go_wp2_with rfl;refine KO (an (H.o9 p0) (an (H.o9 p1) (an (H.o9 p2) (an (H.o9 q1) (an (H.o9 q3) H))))) λr9=>?_;refine tk 12 ?_;refine tk 13 ?_;refine C2 ⟨?_⟩;refine tk 23 ?_;refine tk 24 ?_;refine ST k8 ?_ _;go_wp2;go_ret;exact⟨ag (by rw[HE.o];rfl),(Z.grow H).all⟩
 rw[hn]at HE;simp only[hn]at L9;have hmk:=jk nb O;have Lx:=I (λ(W:J) (t:k7 w W a nb ca b nb cb c nc cc xa xn xc ya yn yc ra rn rc ⟨3,rX,rY,rr,(v1,v2),rp⟩ A B C)=>Au (b:=b) (nb:=nb) (cb:=cb) (c:=c) (nc:=nc) (cc:=cc) (t.grow (D4.alloc W (SH (bF (List.replicate nb 0)) 3))).lp.a (t.grow (D4.alloc W (SH (bF (List.replicate nb 0)) 3))).lr.Kc (kg.ints (show kg (W.alloc (SH (bF (List.replicate nb 0)) 3)) W 3 (List.replicate nb 0)from nE _ _) j9 (m9 nb) O) (m9 _) Lv);have⟨gv,KF⟩:=j7 (es A rr (List.replicate nb 0));rw[<-KF]at HE;simp only[<-KF]at Lx;clear KF;(try unfold f9);go_in
 go_wp2_with rfl;refine i6 HV λw1 hx=>?_;have Z:=I (T0.grow hx);have⟨p0,p1,p2⟩:=Z.p;have⟨q0,q1,q2,q3,q4,q5⟩:=Z.q;go_upto_region 31 with rfl;have H:=D4.drew w1;refine k6 (S:=(λw'=>w'.cell? (IM w 0)=some (FB a nb ca)/\w'.cell? (IM w 1)=some (FB b nb cb)/\w'.cell? (IM w 2)=some (FB c nc cc)/\w'.cell? (IM (w+1) 1)=some (FB xa xn xc)/\w'.cell? (IM (w+1) 3)=some (FB ra rn rc)/\D4 w1 w')) k8 ?_ (λr9=>?_)
 ·exact⟨H.o9 p0,H.o9 p1,H.o9 p2,H.o9 q1,H.o9 q3,H⟩
 refine ks ⟨?_⟩;refine rd 3 λK hK=>?_;go_simp
 (go_at_call 279;refine i6 (Ux _ (Z.grow H)) λw3 C0=>?_;have H:=H.trans C0)
 go_wp2_with rfl;refine KO (an (H.o9 p0) (an (H.o9 p1) (an (H.o9 p2) (an (H.o9 q1) (an (H.o9 q3) H))))) λr9=>?_;refine VU ⟨?_⟩;refine rd 11 λK hK=>?_;go_simp
 (go_at_call 282;refine i6 (L9 _ (Z.grow H)) λw4 E4=>?_;have H:=H.trans E4)
 go_wp2_with rfl;refine KO (an (H.o9 p0) (an (H.o9 p1) (an (H.o9 p2) (an (H.o9 q1) (an (H.o9 q3) H))))) λr9=>?_;refine tk 12 ?_;refine tk 13 ?_;refine Sv ⟨?_⟩;refine UN ⟨?_⟩;have TG:=I (Z.grow H);have hk9:=H;have H:=hk9.trans (D4.alloc w4 (SH (bF (List.replicate nb 0)) 3));refine rd 21 λK hK=>?_;go_simp;refine KO (an (H.o9 p0) (an (H.o9 p1) (an (H.o9 p2) (an (H.o9 q1) (an (H.o9 q3) H))))) λr9=>?_;refine rd 22 λK hK=>?_;go_simp
 (go_at_call 283;refine i6 (Lx _ TG) λw5 F'=>?_;have H:=H.trans F')
 go_wp2_with rfl;refine KO (an (H.o9 p0) (an (H.o9 p1) (an (H.o9 p2) (an (H.o9 q1) (an (H.o9 q3) H))))) λr9=>?_;refine tk 23 ?_;refine tk 24 ?_;refine ST k8 ?_ _;have T2:=I (Z.grow H);have⟨p0,p1,p2⟩:=T2.p;have⟨q0,q1,q2,q3,q4,q5⟩:=T2.q;cases gv
 ·exact td
 have⟨dx,R2⟩:=j7 (Fs C rr);have Tx:=I (iA T2.lp.c T2.lr.Kc);have QB:=I (show aQ az A B C ⟨3,rX,rY,rr,(v1,v2),rp⟩=Yn dx by rw[HE.o,R2];rfl);rw[<-R2]at Tx;clear R2;cases dx with
 | none =>
   rw[show F9 none=((0,0),false)from rfl]at Tx;go_wp2_with rfl;refine i6 Tx λw6 hx=>?_;have X2:=I ((T2.grow hx).grow (D4.alloc _ (SH #[U 0,U 0] 80)));exact K'
 | some v =>
   obtain⟨x1,x2⟩:=v;rw[show F9 (some (x1,x2))=((x1,x2),true)from rfl]at Tx;go_wp2_with rfl;refine i6 Tx λw6 hx=>?_;have X2:=I ((T2.grow hx).grow (D4.alloc _ (SH #[U x1,U x2] 80)));by_cases JB:x1<0
   ·exact wa
   exact K'
theorem Dy(h:L6 w a na ca b nb cb c nc cc A B C)(H:Ug w xa xn xc ya yn yc ra rn rc r)(ok:FT A B C=true):
 f9 207 #[JI a na ca b nb cb c nc cc,JA r xa xn xc ya yn yc ra rn rc] w (ato (aQ az A B C r)):=by
 by_cases Z:r.status=1
 ·exact BI h H ok Z
 by_cases Q:r.status=2
 ·exact BJ h H ok Q
 by_cases K:r.status=3
 ·exact BK h H ok K
 have HE:=I (show aQ az A B C r=false by unfold aQ;rw[f8 Z,f8 Q,f8 K]);have T0:=I (k7.zero h H);have HV:=I (fH T0.lp);rw[ok]at HV;obtain⟨st,rX,rY,rr,rv,rp⟩:=r;obtain⟨v1,v2⟩:=rv;simp only at Z Q K;have e1:(st == 1)=false:=t8;have e2:(st == 2)=false:=t8;have e3:(st == 3)=false:=t8
 (try unfold f9);go_in
 go_wp2_with rfl;refine i6 HV λw1 hx=>?_;have T1:=I (T0.grow hx);have⟨p0,p1,p2⟩:=T1.p;have⟨q0,q1,q2,q3,q4,q5⟩:=T1.q;go_wp2;go_ret;exact⟨ag HE.symm,T1.all⟩
end
end
section
variable{l:o7}{w:J}{a:o6}{n:Nat}
theorem lF{α:Type}{p:α->Bool}{l:List α}{k:Nat}{d:α}(h:k<Lp l):(l.take (k+1)).all p=((l.take k).all p&&p (l[k]?.getD d)):=by
 rw[tn h,p7,In h];simp
theorem iL{α:Type}{p:α->Bool}{l:List α}{k:Nat}{d:α}(h:k<Lp l)(hb:p (l[k]?.getD d)=false):l.all p=false:=by
 exact Uq
def Ms(h:σ:=by
 go_wp2;go_ret;exact⟨ag MJ,rfl⟩
 ):σ:=h
def sd(h:σ:=by
 exact⟨0,I O,rfl,I rfl,rfl⟩
 ):σ:=h
theorem we{cap:Nat}(h:d6 w a n cap l):
 Calls prog 305 #[FB a n cap] w λe w'=>e=atn (ato (l.all (A8 · (-5000) 5000)))/\w=w':=by
 have⟨y7,y8⟩:=h.ath;have HL:=I h.hlen;have HI:=I h;go_in
 go_wp2
 go_loopg [3] n (λgk Z wr=>∃k:Nat,e9 (gk+k=n)/\Z=U k/\e9 ((l.take k).all (A8 · (-5000) 5000)=true)/\w=wr)
 ·exact sd
 obtain⟨k,HK,rfl,HA,rfl⟩:=hrel;by_cases hlt:k<n
 ·obtain⟨b,off,rfl,Fo⟩:=HI.at hlt;have⟨x,hx⟩:=j7 (l[k]?.getD 0);rw[<-hx]at Fo;have H:=I (bj x (-5000) 5000 w);cases hb:A8 x (-5000) 5000
  all_goals
   rw[hb]at H
  ·have HF:e9 (l.all (A8 · (-5000) 5000)=false):=iL (d:=0) CI (by rw[<-hx];exact hb);clear hx;go_wp2_with (go_at_call 90;refine H.mono ?_;rintro e K ⟨rfl,rfl⟩);go_ret;exact⟨ag HF.symm,rfl⟩
  have HT:=I (show(l.take (k+1)).all (A8 · (-5000) 5000)=true by rw[lF (d:=0) CI,HA.o,<-hx,hb];rfl);clear hx;go_wp2_with (go_at_call 90;refine H.mono ?_;rintro e K ⟨rfl,rfl⟩)
  refine dk ?_;exact⟨k+1,I (l8 HK.o),by go_num,HT,rfl⟩
 have HT:e9 (l.take k=l):=aP eo;exact Ms
section
variable{w:J}{a:o6}{na ca:Nat}{b:o6}{nb cb:Nat}{c:o6}{nc cc:Nat}{A:o4}{B:o7}{C:o3}
theorem ov{A:o4}{B:o7}{C:o3}(h:A.all (eU (Lp C))=false):FT A B C=false:=by rw[mJ,h];simp
theorem eY(h:L6 w a na ca b nb cb c nc cc A B C):
 f9 256 #[JI a na ca b nb cb c nc cc] w (ato (FT A B C)):=by
 have B9:=D4.alloc w (bT a na ca b nb cb c nc cc);refine Op B9 (h.ext B9) (mJ A B C) (ah w (bT a na ca b nb cb c nc cc) _ rfl) λIg H HE HTB=>?_;have⟨Wn,QQ⟩:=h.a.ath;have⟨Gm,F0⟩:=h.b.ath;have⟨FQ,IH⟩:=h.c.ath;refine Fn h.a.hlen h.b.hlen h.c.hlen λJc Hj Ji=>?_;(try unfold f9);go_in
 go_upto_region 1 with rfl;have⟨W,hW⟩:=j7 (w.alloc (bT a na ca b nb cb c nc cc));rw[<-hW]at Ig H HTB;rw[<-hW];clear hW;go_wp2
 go_loopg [3] na (λgk ii wr=>∃k:Nat,e9 (gk+k=na)/\ii=U k/\e9 ((A.take k).all (eU nc)=true)/\e9 (D4 W wr))
 ·exact FC
 obtain⟨k,HK,rfl,HA,X1⟩:=hrel;have p0:=aw (X1.blk HTB);have p2:=aK (X1.blk HTB);by_cases hlt:k<na
 ·have⟨gb,L0,ra,rn,rc,UR,PL,A4⟩:=(H.ext X1).a.at hlt;subst UR;have GS:=I A4.hlen;have⟨Kk,hrm⟩:=A4.ath;have HKA:=I (show k<Lp A by rw[Jc.o];exact hlt);have Ja:=I A4;have MI:=aE k;have Ij:=SW k na;go_upto_region 4 with rfl;have Z:=D4.drew wr;by_cases hl:rn=nc
  ·subst hl;have hne:((rn:Int) != (rn:Int))=false:=by simp
   have⟨sm,hsm⟩:=j7 ((A[k]?.getD []).all (A8 · (-5000) 5000));have HRI:=I (show eU rn (A[k]?.getD [])=sm by unfold eU;rw[GS.o,hsm];simp);have Ts:=I (λ(W':J) (hx:D4 wr W')=>we (Ja.ext hx));simp only[<-hsm]at Ts;clear hsm;refine k6 (S:=(λw'=>w'.cell? (IM w 0)=some (FB (some (IM gb L0)) na ca)/\w'.cell? (IM w 2)=some (FB c rn cc)/\w'.cell? (IM gb (L0+k))=some (FB ra rn rc)/\D4 wr w')) k8 ?_ (λr9=>?_)
   ·exact⟨Z.o9 p0,Z.o9 p2,Z.o9 PL,Z⟩
   refine ta ⟨?_⟩;refine tk 14 ?_;refine tk 15 ?_;refine rd 16 λK hK=>?_;go_simp
   (go_at_call 305;refine(Ts _ Z).mono ?_;rintro e w3 ⟨rfl,rfl⟩)
   go_wp2_with rfl;refine KO (an (Z.o9 p0) (an (Z.o9 p2) (an (Z.o9 PL) Z))) λr9=>?_;refine tk 17 ?_;refine tk 18 ?_;refine ST k8 ?_ _;have X2:=I (X1.trans Z);cases sm
   ·have HF:e9 (FT A B C=false):=ov (jZ HKA.o (by rw[Ji.o];exact HRI));go_wp2;go_ret;exact⟨ag HF.symm,Ig.trans X2.o⟩
   have HT:=I (show(A.take (k+1)).all (eU rn)=true by rw[uO HKA.o,HA.o,HRI.o];rfl);exact S7
  have hne:((rn:Int) != (nc:Int))=true:=t8;have HF:e9 (FT A B C=false):=ov (jZ HKA.o (by unfold eU;rw[GS.o,Ji.o,RK hl];rfl));refine k6 (S:=(λw'=>w'.cell? (IM w 0)=some (FB (some (IM gb L0)) na ca)/\w'.cell? (IM w 2)=some (FB c nc cc)/\w'.cell? (IM gb (L0+k))=some (FB ra rn rc)/\D4 wr w')) k8 ?_ (λr9=>?_)
  ·exact⟨Z.o9 p0,Z.o9 p2,Z.o9 PL,Z⟩
  refine ta ⟨?_⟩;refine Sv ⟨?_⟩;refine tk 18 ?_;refine ST k8 ?_ _;go_wp2;go_ret;exact⟨ag HF.symm,Ig.trans (X1.trans Z)⟩
 have E':na=k:=l8 HK.o;subst E';have HT:=I (show A.all (eU nc)=true by have:=HA.o;rwa [aP (by rw[Jc.o];exact m9 _)]at this);have p1:=aJ (X1.blk HTB);have Iu:=I (show FT A B C=(decide (nc<=70)&&(decide (na<=8)&&(decide (nb=na)&&(B.all (A8 · (-5000) 5000)&&Hf C))))by
  rw[HE.o,Jc.o,Hj.o,Ji.o,HT.o];cases Hf C<;>simp)
 by_cases h1:nc<=70
 ·by_cases h2:na<=8
  ·by_cases h3:nb=na
   ·subst h3;have GY:((nb:Int) == (nb:Int))=true:=by simp
    have af8:(nc:Int)<=70:=O;have hle2:(nb:Int)<=8:=O;have Ts:=I (we (H.ext X1).b);have Rm:=I (kA (H.ext X1).c);cases hs:B.all (A8 · (-5000) 5000)
    ·have HF:=I (show FT A B C=false by rw[Iu.o,hs];simp);rw[hs]at Ts;go_wp2_with rfl;refine Ts.mono ?_;rintro e w3 ⟨rfl,rfl⟩;have qq0:=@ag;exact Uy
    have HF:=I (show FT A B C=Hf C by rw[Iu.o,hs,bl h1,bl h2,bl rfl];rfl);rw[hs]at Ts;go_wp2_with rfl;refine Ts.mono ?_;rintro e w3 ⟨rfl,rfl⟩;go_wp2_with rfl;refine i6 Rm λw3 hx=>?_;go_wp2;go_ret;exact⟨ag HF.symm,Ig.trans (X1.trans hx)⟩
   have HF:=I (show FT A B C=false by rw[Iu.o,RK h3];simp);have GY:((nb:Int) == (na:Int))=false:=t8;have af8:(nc:Int)<=70:=O;have hle2:(na:Int)<=8:=O;have qq0:=@ag;exact Uy
  have HF:=I (show FT A B C=false by rw[Iu.o,RK h2];simp);have af8:(nc:Int)<=70:=O;have hle2:¬(na:Int)<=8:=O;have qq0:=@ag;exact Uy
 have HF:=I (show FT A B C=false by rw[Iu.o,RK h1];simp);have af8:¬(nc:Int)<=70:=O;have qq0:=@ag;exact Uy
end
theorem rH{b:o6}{cap n' H:Nat}{A B:o3}(h:i8 w a n cap A)(h':i8 w b n' H B):
 f9 317 #[FB a n cap,FB b n' H] w (Kg (F9 (Fs A B))):=by
 have HL:=I h.hlen;have M4:=I h'.hlen;have y7:=h.y7;have y8:=h.y8;have ZI:=h'.y7;have Zt:=h'.y8;have Z:=D4.alloc w (SH #[.int .i64 0,.int .i64 0] 80);refine Op (h.ext Z) (h'.ext Z) Z (ah w (SH #[.int .i64 0,.int .i64 0] 80) _ rfl) λHIA HIB B4 E6=>?_;clear h h' Z;by_cases hne:n=n'
 ·subst hne;have HD:=I (show Fs A B=IB A B n by unfold Fs;rw[HL.o,M4.o,i7 rfl]);have UO:((n:Int) != (n:Int))=false:=by simp
  (try unfold f9);go_in
  go_wp2_with rfl;refine i6 (cV 0 _) λK B0=>?_;have A6:=I B0;have Mo:=I (ai.new (D4.refl K) 0 1);have IE:=I (λ(w':J) (hx:D4 K w')=>(hx.block _ Um).trans ((A6.block _ (IO E6)).trans E6));have Ig:=I (B4.trans A6);have Ze:w.heap.size<K.heap.size:=by have:=IO E6.o;have:=A6.size;omega
  clear B0;go_wp2
  go_loopg [7] n (λgk ii wr=>∃(k:Nat) (p q:Int),e9 (gk+k=n)/\ii=.int .i64 (k:Int)/\e9 (ai K wr K p q)/\e9 (IB A B k=some (p,q)))
  ·exact⟨0,0,1,I O,rfl,Mo,I rfl⟩
  have qq0:=@yR;have qq1:=@jr;have qq2:=@KU;exact Sq
 have qq0:=@KU;exact Rm
theorem gH{v:atY}{a b:Bool}(h:a=b):atn (.tuple #[v,ato a])=atn (.tuple #[v,ato b]):=by rw[h]
theorem yO{cap:Nat}(h:d6 w a n cap l)(hbig:n<=1048576):
 Calls prog 345 #[FB a n cap] w λe w'=>(∃v,e=atn (.tuple #[v,ato (Nn l)])/\ZM w' w v (eV l))/\D4 w w':=by
 have⟨y7,y8⟩:=h.ath;refine Fn h.hlen h (ZM.made w w (m9 _)) λHL HI HO=>?_;go_in
 go_wp2
 go_loopg [4,5] n (λgk oo ii wr=>∃(k:Nat) (a1:o6) (n1 c1:Nat),e9 (gk+k=n)/\ii=U k/\oo=FB a1 n1 c1/\e9 ((l.take k).all (λc=>A8 c (-1000000000) 1000000000)=true)/\e9 (ZM wr w (FB a1 n1 c1) (aI (l.take k)))/\e9 (D4 w wr))
 ·exact Vx
 obtain⟨k,a1,n1,c1,HK,rfl,rfl,HA,K,H⟩:=hrel;have hsz:=H.size;by_cases hlt:k<n
 ·obtain⟨b,off,rfl,Fo⟩:=(HI.ext H).at hlt;have⟨x,hx⟩:=j7 (l[k]?.getD 0);rw[<-hx]at Fo;have HC:=I (bj x (-1000000000) 1000000000 wr);cases hb:A8 x (-1000000000) 1000000000
  all_goals
   rw[hb]at HC
  ·have Z:e9 (Nn l=false):=iL (d:=0) CI (by rw[<-hx];exact hb);have HR:=I (show eV l=[]by unfold eV;rw[Z.o];rfl);clear hx;go_wp2_with (go_at_call 90;refine HC.mono ?_;rintro e w2 ⟨rfl,rfl⟩)
   go_ret2;exact⟨⟨_,gH Z.symm,by rw[HR.o];exact ZM.made _ _ hsz⟩,H.trans ZL⟩
  refine Fn (show(l.take (k+1)).all (λc=>A8 c (-1000000000) 1000000000)=true by rw[lF (d:=0) CI,HA.o,<-hx,hb];rfl) (show aI (l.take k)++[(x,1)]=aI (l.take (k+1))by rw[hx];exact qH CI) (show(aI (l.take k)).length=k by rw[fZ,jt,HL.o];omega) λHT H7 Gq=>?_;clear hx;go_wp2_with (go_at_call 90;refine HC.mono ?_;rintro e w2 ⟨rfl,rfl⟩);refine qc (cV x _) λw3 hx=>?_;have X3:=I (H.trans hx);have C8:=I (K.ext hx);have LR:=X3.size
  go_wp2_with (first
   | (at_builtin;refine Qt x 1 C8 X3 E9 λa5 n5 p5 w5 JU X5 Fj=>?_))
  refine dk ?_;exact⟨k+1,a5,n5,p5,I (l8 HK.o),by go_num,rfl,HT,I U5,X5⟩
 have HT:e9 (l.take k=l):=aP eo;have Z:=I (show Nn l=true by have:=HA.o;rw[HT.o]at this;exact this);have HR:=I (show eV l=aI (l.take k)by unfold eV;rw[Z.o,HT.o];rfl);go_wp2;go_ret2;exact⟨⟨_,gH Z.symm,by rw[HR.o];exact K⟩,H⟩
def sb(h:σ:=by
 have hr:=bO (X2.blk E6);obtain⟨FH,FL,JR⟩:=hr;clear hx;go_wp2;refine GE (by simp[results,results314,go_sem,FH,FL]<;>rfl) rfl ⟨by rw[<-SZ.o];rfl,(((B4.trans X2).store 0 (m9 _) _).store 1 (m9 _) _)⟩
 ):σ:=h
theorem pQ{cap:Nat}(h:d6 w a n cap l)(hf:Nn l=true)(H:n<=1048576){xa:o6}{xn xc:Nat}{X:o3}(hX:i8 w xa xn xc X):
 f9 314 #[FB a n cap,FB xa xn xc] w (Kg (F9 (Fs (aI l) X))):=by
 have B9:=D4.alloc w (SH #[U 0,U 0] 80);refine kv B9 (yO (h.ext B9) H) (hX.ext B9) (show eV l=aI l by unfold eV;rw[hf];rfl) (ah w (SH #[U 0,U 0] 80) _ rfl) λB4 HI JT GN E6=>?_;rw[hf,GN.o]at HI;unfold f9;go_in
 go_wp2_with rfl;refine PP HI λw1 v1 ho hx=>?_;obtain⟨a1,n1,c1,rfl,HN1⟩:=ho.var;have K:=I (rH ho.rats (JT.ext hx));have X1:=I hx;have⟨dv,SZ⟩:=Ok (Fs (aI l) X);rw[<-SZ.o]at K;have hsz:=X1.size;rw[Mc]at hsz;cases dv with
 | none =>
   rw[show F9 none=((0,0),false)from rfl]at K;go_wp2_with rfl;refine i6 K λQ hx=>?_;have X2:=I ((X1.trans hx).trans (D4.alloc Q (SH #[U 0,U 0] 80)));exact sb
 | some r =>
   obtain⟨r1,Z⟩:=r;rw[show F9 (some (r1,Z))=((r1,Z),true)from rfl]at K;go_wp2_with rfl;refine i6 K λQ hx=>?_;have X2:=I ((X1.trans hx).trans (D4.alloc Q (SH #[U r1,U Z] 80)));exact sb
theorem me(m:Nat)(hm:m<=100000):
 Calls prog 316 #[U m] w λe w'=>(∃v,e=atn v/\ZM w' w v (List.replicate m (0,1)))/\D4 w w':=by
 have HO1:=I (ZM.made w w (m9 _));go_in
 go_wp2
 go_loopg [3,4] m (λgk oo ii wr=>∃(k:Nat) (Z:o6) (K H:Nat),e9 (gk+k=m)/\ii=U k/\oo=FB Z K H/\e9 (ZM wr w (FB Z K H) (List.replicate k (0,1)))/\e9 (D4 w wr))
 ·exact I1
 obtain⟨k,Z,K,H,HK,rfl,rfl,HR,IX⟩:=hrel;by_cases hlt:k<m
 ·have Gq:=I (show(List.replicate k ((0:Int),(1:Int))).length=k by simp);go_wp2_with rfl;refine i6 (cV 0 _) λw3 hx=>?_;have X3:=I (IX.trans hx);have C8:=I (HR.ext hx);have qq0:=@dk;exact Rz
 have FA:m=k:=l8 HK.o;exact K0
section
variable{w:J}{a:o6}{na ca:Nat}{b:o6}{nb cb:Nat}{c:o6}{nc cc:Nat}{A:o4}{B:o7}{C:o3}
theorem CB(h:L6 w a na ca b nb cb c nc cc A B C)(ok:FT A B C=true){j:Nat}(hj:j<nc):
 Calls prog 346 #[JI a na ca b nb cb c nc cc,U j] w λe w'=>(∃v,e=atn v/\y9 w' w v (FV A j))/\D4 w w':=by
 have⟨r1,r2,r3,r4,r5,r6⟩:=dL h ok;subst r3;have B9:=D4.alloc w (bT a nb ca b nb cb c nc cc);have B4:=I B9;have K:=I (ah w (bT a nb ca b nb cb c nc cc) _ rfl);have⟨W,hW⟩:=j7 (w.alloc (bT a nb ca b nb cb c nc cc));have H:=I (h.ext B9);rw[<-hW]at B9 B4 K H;have HI:=I H.a;have⟨Wn,QQ⟩:=h.a.ath;have⟨FQ,IH⟩:=h.c.ath;have HL:=I h.a.hlen;have Gq:=I r4;have Oc:W.heap.size=w.heap.size+1:=by rw[hW];simp
 have HO:=I (y9.Ft W (w+1) _ rfl O);have X0:=I (D4.alloc W (SH #[] 3));have HV:=I (eY (H.ext X0));rw[ok]at HV;have Jj:=I (λw'=>bj (j:Int) 0 ((nc:Int)-1) w');rw[show A8 (j:Int) 0 ((nc:Int)-1)=true by unfold A8;simp;omega]at Jj;have Jl:=dc ((nc:Int)-1)
 go_in
 go_upto_region 1 with rfl;rw[<-hW];clear hW;have⟨p0,Z,p2⟩:=mc (X0.blk K);rw[Oc]at HO;go_wp2_with rfl;refine i6 HV λw1 hx=>?_;have X1:=I (X0.trans hx);have aho:=I (HO.ext hx);have p2:=aK (X1.blk K);go_wp2_with (go_at_call 90;refine(Jj _).mono ?_;rintro e w2 ⟨rfl,rfl⟩)
 go_loopg [5,6] nb (λgk o ii wr=>∃(k:Nat) (a1:o6) (n1 Z:Nat),e9 (gk+k=nb)/\ii=U k/\o=FB a1 n1 Z/\e9 (y9 wr (w+1) (FB a1 n1 Z) (FV (A.take k) j))/\e9 (D4 W wr))
 ·exact⟨0,_,_,_,I O,rfl,rfl,I (by simpa[FV]using aho.o),X1⟩
 obtain⟨k,a1,n1,Z,HK,rfl,rfl,HO1,A6⟩:=hrel;have p0:=aw (A6.blk K);have hsz:=A6.size;by_cases hlt:k<nb
 ·obtain⟨gb,L0,ra,rn,rc,rfl,PL,A4⟩:=(HI.ext A6).at hlt;have Kk:rn=nc:=by rw[<-A4.hlen];exact Gq.o k hlt
  exact p3
 have E':nb=k:=l8 HK.o;subst E';have HT:e9 (A.take nb=A):=aP hI;rw[HT.o]at HO1;go_wp2;go_ret;exact⟨⟨_,rfl,HO1.mono O⟩,B4.trans A6.o⟩
theorem mb{w:J}{a:o6}{n cap:Nat}{l:o3}(h:i8 w a n cap l):
 f9 319 #[FB a n cap] w (ato (LK l)):=by
 have⟨y7,y8⟩:=h.ath;have HL:=I h.hlen;have HI:=I h;unfold f9;go_in
 go_wp2
 go_loopg [3] n (λgk ii wr=>∃k:Nat,e9 (gk+k=n)/\ii=U k/\e9 ((l.take k).all (λr=>A5 r&&decide (0<=r.1))=true)/\e9 (D4 w wr))
 ·exact FC
 obtain⟨k,HK,rfl,HA,HX⟩:=hrel;by_cases H:k<n
 ·obtain⟨b,off,x,y,rfl,FI,Fo,FQ⟩:=(HI.ext HX).at H;have K:=I (cL x y wr);have Z:=I (show k<Lp l by rw[HL.o];exact H);cases hb:A5 (x,y)
  all_goals
   rw[hb]at K
  ·have HF:e9 (LK l=false):=iL (d:=(0,0)) Z.o (by rw[FI,hb];rfl);go_wp2_with rfl;refine i6 K λw2 C9=>?_;exact gd
  by_cases B9:x<0
  ·have HF:e9 (LK l=false):=iL (d:=(0,0)) Z.o (by rw[FI,hb];simp;omega);go_wp2_with rfl;refine i6 K λw2 C9=>?_;have k0:=C9.o9 Fo;have k1:=C9.o9 FQ;exact gd
  have HT:=I (show(l.take (k+1)).all (λr=>A5 r&&decide (0<=r.1))=true by rw[lF (d:=(0,0)) Z.o,HA.o,FI,hb];simp;omega);go_wp2_with rfl;refine i6 K λw2 C9=>?_;have k0:=C9.o9 Fo;have k1:=C9.o9 FQ;go_wp2_with rfl;refine dk ?_;exact⟨k+1,I (l8 HK.o),by go_num,HT,I (HX.trans C9)⟩
 exact SQ
end
theorem gZ{r:o7}(h:∀x∈r,-5000<=x/\x<=5000):Nn r=true:=by
 unfold Nn;rw[fp];intro x hx;have:=h x hx;unfold A8;simp;omega
theorem vZ{na ca:Nat}{b:o6}{nb cb:Nat}{c:o6}{nc cc:Nat}{A:o4}(h:dD w a na ca A){xa:o6}{xn Pz:Nat}{X:o3}(hX:i8 w xa xn Pz X)
 {da:o6} {dn H:Nat} {D:o7} (hD:d6 w da dn H D) (hdn:na<=dn) (A4:∀i,i<na->Lp (A[i]?.getD [])<=70/\∀x∈A[i]?.getD [],-5000<=x/\x<=5000) :
 f9 320 #[JI a na ca b nb cb c nc cc,FB xa xn Pz,FB da dn H] w (ato (es A X D)):=by
 have Z:=D4.alloc w (bT a na ca b nb cb c nc cc);refine kv Z (h.ext Z) (hX.ext Z) (hD.ext Z) A4 λB4 HI JT Mb IE=>?_;have⟨Wn,QQ⟩:=h.ath;have⟨RA,VC⟩:=hD.ath;have Jc:=I h.hlen;have K:=I (ah w (bT a na ca b nb cb c nc cc) _ rfl);have HE:=I (show es A X D=(List.range na).all (iQ A X D)by rw[vg,Jc.o]);unfold f9;go_in
 go_wp2
 go_loopg [7] na (λgk ii wr=>∃k:Nat,e9 (gk+k=na)/\ii=U k/\e9 ((List.range k).all (iQ A X D)=true)/\e9 (D4 (w.alloc (bT a na ca b nb cb c nc cc)) wr))
 ·exact FC
 obtain⟨k,HK,rfl,HA,HX⟩:=hrel;have hsz:=HX.size;rw[Mc]at hsz;by_cases hlt:k<na
 ·have⟨gb,L0,ra,rn,rc,UR,PL,A4⟩:=(HI.ext HX).at hlt;subst UR;have Kk:rn<=70:=by rw[<-A4.hlen];exact(IE k hlt).1
  have p0:=aw (HX.blk K);have X2:=HX;have HD:=I (pQ A4 (gZ (IE k hlt).2) O (JT.ext X2));have⟨dv,LB⟩:=j7 (Fs (aI (A[k]?.getD [])) X);have HG:=I (show iQ A X D k=decide (dv=some (D[k]?.getD 0,1))by rw[LB];rfl);rw[<-LB]at HD;clear LB;have⟨db,QR,hda,SE⟩:=(Mb.ext X2).at (show k<dn by omega);subst hda;generalize D[k]?.getD 0=d at HG SE;cases dv with
  | none =>
    exact ay
  | some r =>
    have qq0:=@cV;exact NH
 have E':na=k:=l8 HK.o;subst E';have p0:=aw (HX.blk K);have qq0:=@ag;exact H3
section
def Ud{P Q:Prop}(k:ob Q)(h:ob Q->P:=by intro k;refine tk 27 ?_;refine tk 28 ?_;refine tk 29 ?_;refine tk 30 ?_;refine tk 31 ?_;refine tk 32 ?_;refine tk 33 ?_;refine tk 34 ?_;refine tk 35 ?_;refine tk 36 ?_;exact k.1):P:=h k
def RQ{P Q:Prop}(k:ob Q)(h:ob Q->P:=by intro k;refine tk 23 ?_;refine tk 24 ?_;refine tk 25 ?_;exact k.1):P:=h k
def da(h:σ:=by rw[HT.KN];exact hlt):σ:=h
def YY(h:σ:=by rw[HVL.o];omega):σ:=h
def Pv(h:σ:=by have:=Fj.o;rw[vl,H7.o]at this;exact this):σ:=h
def YX{P Q:Prop}(q:Q)(h:Q->P:=by intro q;go_roundg (g2-1);exact q;have:=HJ.o;omega):P:=h q
def Y6{P Q:Prop}(q:Q)(h:Q->P:=by intro q;go_roundg (gk-1);exact q;have:=HI.o;omega):P:=h q
variable{l:o3}{k j b n Fm base xn xc yn yc rn rc:Nat}{a xa ya ra:o6}{w W w':J}{piv:Int}{r:I'}
theorem ys{α β:Type}(f:α->β){l:List α}{d:α}(h:k<Lp l):(l.take k).map f++[f (l[k]?.getD d)]=(l.take (k+1)).map f:=by
 rw[tn h,rN,In h];rfl
theorem dq{β:Type}(f:Nat->β)(k:Nat):(List.range k).map f++[f k]=(List.range (k+1)).map f:=by rw[mr];simp
theorem zz(m i:Nat):tS m i=(List.range m).map λk=>if k=i then((1:Int),(1:Int)) else(0,1):=rfl
section
variable{w:J}{a:o6}{na ca:Nat}{b:o6}{nb cb:Nat}{c:o6}{nc cc:Nat}{A:o4}{B:o7}{C:o3}
def KX(h:σ:=by
 have⟨xb,Py,TN,B9⟩:=(Ja.ext A6).at Hn;subst TN;have⟨x,hx⟩:=j7 ((A[k]?.getD [])[j]?.getD 0);rw[<-hx]at B9;have SX:=I (show j<(A[k]?.getD []).length by rw[Kd.o k hlt];exact Hn);have S8:-5000<=x/\x<=5000:=by
  rw[hx,In SX.o];exact(Lv k hlt).2 _ (cP _)
 obtain⟨hxb0,hxb1⟩:=S8;have Qr:sd*x=x∨sd*x=-x∨sd*x=0:=by
  have:sd=-1∨sd=0∨sd=1:=by omega
  rcases this with h1|h1|h1<;>subst h1<;>omega
 have Vx:-5000<=sd*x/\sd*x<=5000:=by rcases Qr with h1|h1|h1<;>rw[h1]<;>omega
 have⟨z,hz⟩:=j7 (sd*x);have Y3:wrap64 (sd*x)=z:=by rw[hz];unfold wrap64;omega
 have H7:=I (show((A[k]?.getD []).take j).map (λx=>(sd*x,(1:Int)))++[(z,1)]=((A[k]?.getD []).take (j+1)).map (λx=>(sd*x,(1:Int)))by
  rw[hz,hx];exact ys (λx=>(sd*x,(1:Int))) SX)
 have Gq:=I (show(((A[k]?.getD []).take j).map (λx=>(sd*x,(1:Int)))).length=j by rw[b7,jt];have:=SX.o;omega);clear hx hz Qr Vx;go_wp2_with rfl;rw[Y3];clear Y3;refine(qq0 z _).mono ?_;rintro e w3 ⟨rfl,hx⟩;have X3:=I (A6.trans hx);have C8:=I (aa.ext hx);have LR:=X3.size;clear hx
 go_wp2_with (first
  | (at_builtin;refine Qt z 1 C8 X3 E9 λa5 n5 p5 w5 JU X5 Fj=>?_))
 refine YX ?_;exact⟨j+1,a5,n5,p5,I (l8 HJ.o),by go_num,rfl,I U5,X5⟩
 ):σ:=h
def NL(h:σ:=by
 have bf:=ee Qa.box;have hl8:=IO Qa.box;have J9:=I (show((List.range k).map λi=>((yn+i:Nat):Int)).length=k by simp)
 go_wp2_with (first
  | (at_builtin;refine bK rfl _ _ rfl w1.heap.size vb _ rfl (Qa.b.ext ZL) _ 1 _ [(yn:Int)+(k:Int)] rfl (G3 j9) (by rw[J9.o];omega) t8 ?_;intro v9 w9 ho hg r';obtain⟨a9,n9,q9,rfl,Qe⟩:=ho.var;have Il:=I ho;have Tv:=I hg;have Gu:=Qa.QT ZL hg;have c09:=aJ Gu;have UY:=ee Gu;have Pj:D4 w1 w9:=aj (D4.trans MX.o ZL) hg (λj hj=>(Qa.b.lt j hj).1);clear ho hg r' Gu))
 have Hq:=I (Qa.pushB ZL Tv.o Il);have Nq:=I (Pj.setCell (p:=(IM w1.heap.size 1)) (m9 _) (FB a9 n9 q9));refine gy ?_;exact⟨k+1,_,_,_,I (l8 HK.o),by go_num,I (by
  have h1:=Hq.o;rw[Lu.o,dq]at h1;have h2:((List.range k).map λi=>((yn+i:Nat):Int))++[(yn:Int)+(k:Int)]=(List.range (k+1)).map λi=>((yn+i:Nat):Int):=by
   rw[<-dq];simp
  rw[h2]at h1;exact h1),Nq⟩
 ):σ:=h
def Rn(h:σ:=by
 have E':nb=k:=by have:=HK.o;omega
 subst E';have Tq:=I (show GR A1 w1.heap.size va vb vs (cG A B nc)by have:=T.own;unfold cG;rw[Jc.o];exact this);have t0:=aw T.box;have t1:=aJ T.box;have t2:=aK T.box;obtain⟨a7,n7,c7,rfl,Ma⟩:=T.a.var;obtain⟨a8,n8,c8,rfl,OU⟩:=T.b.var;have xw:=X1.trans HX.o;have r0:=aw (xw.blk Gj);have r1:=aJ (xw.blk Gj);have r2:=aK (xw.blk Gj);have rf:=ee (xw.blk Gj);have XW:=I xw;clear xw;go_wp2;refine GE (v:=.agg #[FB a7 n7 c7,FB a8 n8 c8,U nc]) (by simp[results,qq0,go_sem,r0,r1,r2,rf]) rfl ⟨⟨_,_,vs,rfl,?_⟩,(B4.trans XW).Kf (bq _) _ _ _⟩;exact(Tq.Hd λk hk=>dW _ _ _ _ _ _ O).mono O
 ):σ:=h
def R2(h:σ:=by
 have:sd=-1∨sd=0∨sd=1:=by omega
 rcases this with h1|h1|h1<;>subst h1<;>omega
 ):σ:=h
def Rk(h:σ:=by
 rcases Zg with⟨Iy,rfl⟩|⟨Iy,rfl⟩
 all_goals
  go_wp2;go_meet;exact⟨rfl,rfl⟩
 ):σ:=h
def tc(h:σ:=by
 rw[hd];subst LP;clear Nv Vz Pd hd;go_wp2;go_meet;exact⟨rfl,rfl⟩
 ):σ:=h
def T6(h:σ:=by
 exact⟨0,_,_,_,I O,rfl,rfl,I (by simpa using GJ.o),A6⟩
 ):σ:=h
theorem ul(h:L6 w a na ca b nb cb c nc cc A B C)(ok:FT A B C=true):
 Calls Tryz.prog 273 #[JI a na ca b nb cb c nc cc] w λe w'=>(∃va vb vs,e=atn (.agg #[va,vb,U nc])/\GR w' w va vb vs (cG A B nc))/\D4 w w':=by
 have⟨r1,r2,r3,r4,r5,r6⟩:=dL h ok;subst r3;have B9:=(D4.alloc w (bT a nb ca b nb cb c nc cc)).trans (D4.alloc _ (SH #[d9,d9,U 0] 216));have⟨W,hW⟩:=j7 ((w.alloc (bT a nb ca b nb cb c nc cc)).alloc (SH #[d9,d9,U 0] 216));rw[<-hW]at B9;have B4:=I B9;have H:=I (h.ext B9);have HV:=I (fH H);rw[ok]at HV;refine Fn (show W.heap[w.heap.size+1]?=some (SH #[d9,d9,U 0] 216 (0,0))by rw[hW];exact LE j9) (show W.heap[w.heap.size]?=some (SH #[FB a nb ca,FB b nb cb,FB c nc cc] 124 (0,0))by rw[hW,wZ j9];exact LE rfl) (show W.heap.size=w.heap.size+1+1 by rw[hW];simp) λGj G J'=>?_;have⟨Wn,QQ⟩:=h.a.ath;have⟨Gm,F0⟩:=h.b.ath;have⟨FQ,IH⟩:=h.c.ath;refine kv h.a.hlen h.b.hlen r4 r5 r6 λJc Hj Kd Lv Ri=>?_;clear h B9 ok r4 r5 r6;go_in
 go_upto_region 1 with rfl;rw[<-hW];clear hW;have⟨p0,p1,p2⟩:=mc G.o;go_wp2_with rfl;refine qc HV λw1 X1=>?_;have H1:=I (H.ext X1);clear p0 p1 p2;refine Fn (aw (X1.blk G)) (aJ (X1.blk G)) (aK (X1.blk G)) λP0 P1 P2=>?_;have p2:=P2.o;have J2:w.heap.size+1+1<=w1.heap.size:=by have:=X1.size;have:=J'.o;omega
 have⟨E,hE⟩:=j7 (w1.alloc (SH #[d9,d9,U nc] 216));have XE:=I (show D4 w1 E by rw[hE];exact ZL)
 have SN:=I (show Lr E w1 w1 d9 (d9) (nc:Int) [] [] []by
  rw[hE];exact⟨LE rfl,m9 _,T9 _ _ _ 1,ez.nil _ _,y4⟩)
 go_upto_region 4 with rfl;rw[<-hE];clear hE p2;have p0:=XE.o9 P0.o;go_wp2
 go_loopg [23] nb (λgk ii wr=>∃(k:Nat) (va vb:atY) (vs:List atY),e9 (gk+k=nb)/\ii=U k/\e9 (Lr wr w1 w1 va vb (nc:Int) vs ((List.range k).map (dH A B)) ((List.range k).map λi=>((nc+i:Nat):Int)))/\e9 (D4 w1 wr))
 ·exact⟨0,_,_,_,I O,rfl,SN,XE⟩
 rename Nat=>g1;rename J=>A1;obtain⟨k,va,vb,vs,HK,rfl,T,HX⟩:=hrel;clear p0;have hsr:=HX.size;by_cases hlt:k<nb
 ·have⟨zb,Gd,ya,yn,yc,Lf,Hl,A4⟩:=(H1.ext HX).a.at hlt;subst Lf;obtain rfl:yn=nc:=by rw[<-A4.hlen];exact Kd.o k hlt
  have⟨F7,Mz⟩:=A4.ath;have⟨eb,D6,Kl,GI⟩:=H1.b.at hlt;subst Kl;have⟨bk,PN⟩:=j7 (B[k]?.getD 0);rw[<-PN]at GI;have RT:=I GI;have HBK:=I PN;have GY:-5000<=bk/\bk<=5000:=by
   rw[PN,In (by rw[Hj.o];exact hlt)];exact Ri.o _ (cP _)
  obtain⟨hbb0,hbb1⟩:=GY;have⟨sd,Te⟩:=j7 (IW bk);have HSD:=I Te;have Zg:(bk<0/\sd=-1)∨(¬bk<0/\sd=1):=by rw[Te];exact ip bk
  have KD:-1<=sd/\sd<=1:=O;obtain⟨hsb0,Zh⟩:=KD;have p1:=HX.o9 P1.o;have LX:=HX.o9 RT.o;have Ja:=I A4;clear A4 PN Te GI;go_upto_if 33 with rfl
  go_cut [6] (λs6 wx=>s6=U sd/\A1=wx)
  case first =>
   exact Rk
  obtain⟨rfl,rfl⟩:=hcut;clear Zg;have HO1:=I (ZM.made A1 A1 (m9 _));go_wp2
  go_loopg [7,37] yn (λgk oo ii wr=>∃(j:Nat) (a1:o6) (n1 q1:Nat),e9 (gk+j=yn)/\ii=U j/\oo=FB a1 n1 q1/\e9 (ZM wr A1 (FB a1 n1 q1) (((A[k]?.getD []).take j).map λx=>(sd*x,(1:Int))))/\e9 (D4 A1 wr))
  ·exact I1
  rename Nat=>g2;rename J=>wr2;obtain⟨j,a1,n1,q1,HJ,rfl,rfl,aa,A6⟩:=hrel;clear p1 LX Hl;by_cases Hn:j<yn
  ·have qq0:=@cW;exact KX
  have JK:yn=j:=l8 HJ.o;have GJ:=I (show ZM wr2 A1 (FB a1 n1 q1) ((A[k]?.getD []).map (λx=>(sd*x,(1:Int))))by
   have h1:=aa.o;rw[aP (by rw[Kd.o k hlt];omega)]at h1;exact h1)
  have Lw:=I (show((A[k]?.getD []).map (λx=>(sd*x,(1:Int)))).length=yn by rw[b7];exact Kd.o k hlt);have p0:=(HX.trans A6).o9 P0.o;clear JK;go_wp2
  go_loopg [7,52] nb (λgk oo ii wr=>∃(i:Nat) (a1:o6) (n1 q1:Nat),e9 (gk+i=nb)/\ii=U i/\oo=FB a1 n1 q1/\e9 (ZM wr A1 (FB a1 n1 q1) ((A[k]?.getD []).map (λx=>(sd*x,(1:Int)))++(List.range i).map λi=>if i=k then((1:Int),(1:Int)) else(0,1)))/\e9 (D4 A1 wr))
  ·exact T6
  obtain⟨i,a3,n3,q3,HI,rfl,rfl,C8,C5⟩:=hrel;clear p0;by_cases K2:i<nb
  ·have Gq:=I (show((A[k]?.getD []).map (λx=>(sd*x,(1:Int)))++(List.range i).map λi=>if i=k then((1:Int),(1:Int)) else(0,1)).length=yn+i by rw[ar,Lw.o];simp);obtain⟨un,Nv⟩:∃u:Int,u=if i=k then 1 else 0:=⟨_,rfl⟩
   have H7:=I (show(List.range i).map (λi=>if i=k then((1:Int),(1:Int)) else(0,1))++[(un,1)]=(List.range (i+1)).map λi=>if i=k then((1:Int),(1:Int)) else(0,1)by
    rw[<-dq,Nv];congr 2;split<;>rfl)
   have Pd:((i:Int) == (k:Int))=decide (i=k):=by by_cases h:i=k<;>simp[h]<;>omega
   go_upto_if 57 with rfl
   go_cut [11] (λs11 wx=>s11=U un/\wr=wx)
   case first =>
    by_cases Vz:i=k
    ·have LP:un=1:=by rw[Nv,i7 Vz]
     have hd:decide (i=k)=true:=bl Vz;exact tc
    have LP:un=0:=by rw[Nv,f8 Vz]
    have hd:decide (i=k)=false:=RK Vz;exact tc
   obtain⟨rfl,rfl⟩:=hcut;clear Nv Pd;go_wp2_with rfl;refine qc (cW un _) λw3 hx=>?_;have X3:=I (C5.trans hx);have Gh:=I (C8.ext hx);have LR:=X3.size
   go_wp2_with (first
    | (at_builtin;refine Qt un 1 Gh X3 E9 λa5 n5 p5 w5 JU X5 Fj=>?_))
   refine Y6 ?_;exact⟨i+1,a5,n5,p5,I (l8 HI.o),by go_num,rfl,I Pv,X5⟩
  have FA:i=nb:=l8 HI.o;subst FA;have⟨z2,KZ⟩:=j7 (sd*bk);have Qr:sd*bk=bk∨sd*bk=-bk∨sd*bk=0:=by
   exact R2
  have hwr:IntKind.i64.wrap (sd*bk)=z2:=by
   rw[j0,KZ];rcases Qr with h1|h1|h1<;>rw[h1]<;>omega
  have Lu:=I (show((A[k]?.getD []).map (λx=>(sd*x,(1:Int)))++(List.range i).map λi=>if i=k then((1:Int),(1:Int)) else(0,1))++[(z2,1)]=dH A B k by
   unfold dH;rw[<-HBK.o,<-HSD.o,KZ,Jc.o,zz])
  have Gq:=I (show((A[k]?.getD []).map (λx=>(sd*x,(1:Int)))++(List.range i).map λi=>if i=k then((1:Int),(1:Int)) else(0,1)).length=yn+i by rw[ar,Lw.o];simp);have HVL:=I (show Lp vs=k by rw[T.rows.len];simp);have t0:=aw T.box;have p1:=HX.o9 P1.o;have LX:=HX.o9 RT.o;have MI:=aE k;have Ij:=SW k i;clear KZ Qr;go_upto_region 24 with rfl;have Lm:=D4.drew wr;have r7:D4 A1 wr.drew:=C5.trans Lm;have r8:=I λw' (h:D4 A1 w')=>TX (h.o9 t0) (TX (h.o9 p1) (TX (h.o9 LX) (HX.trans h)));refine cj (M:=[16]) (S:=λw'=>w'.cell? (IM w1 0)=some va/\w'.cell? (IM w 1)=some (FB (some (IM eb D6)) i cb)/\w'.cell? (IM eb (D6+k))=some (U bk)/\D4 w1 w') k8 ?_;have r9:=r8.o _ r7;refine ly ⟨?_⟩;refine lp 4 ?_;refine ll 5 ?_;refine lp 6 ?_;refine lp 7 ?_;refine ll 8 ?_;refine lp 9 ?_;refine Im 10 λK hK=>?_
  go_simp;go_at_call 128;refine i6 (cW _ _) λw5 F'=>?_;have Lm:D4 wr w5:=Lm.trans F';have r7:D4 A1 w5:=r7.trans F';have MD:=r7.size;go_wp2_with rfl;refine KL (r8 _ r7) λr9=>?_
  refine Im 11 λK hK=>?_;go_simp;refine hK.out _ _ (λ_=>r8.o _ (r7.trans ZL)) ?_;clear hK K
  try simp only[Act.put,sA,sB,sC]
  refine Im 12 λK hK=>?_;refine dw _ _ l7 A1 (FB a3 n3 q3) _ l7 ((C8.ext Lm).ext ZL) _ 1 _ [(z2,1)] l7 (z6 rfl) E9 t8 ?_;intro v6 w6 ho hg r';obtain⟨a6,n6,q6,rfl,Jy⟩:=ho.var;have Gp:=I ho;have LA:D4 A1 w6:=aj (r7.trans ZL) hg (λj hj=>(C8.lt j hj).1);have hs6:=LA.size;clear ho hg r';refine KL (r8 _ LA) λr9=>?_;refine Im 13 λK hK=>?_;go_simp;refine hK.out _ _ (λ_=>r8.o _ (LA.trans ZL)) ?_;clear hK K
  try simp only[Act.put,sA,sB,sC]
  refine Im 14 λK hK=>?_;refine gh _ _ l7 w1 va vs l7 ((T.a.ext LA).ext ZL) _ _ 1 l7 E5 rfl YY t8 ?_;intro v7 w7 ho hg r';obtain⟨a7,n7,q7,rfl,Ma⟩:=ho.var;have Kb:=I ho;have Uv:=I hg;have Gu:=T.QU (LA.trans ZL) hg;have Tm:=aw Gu;have cf7:=ee Gu;have Pk:D4 w1 w7:=aj ((HX.trans LA).trans ZL) hg (λj hj=>(T.a.lt j hj).1);clear ho hg r' Gu;refine KL (eN Tm (eN (Pk.o9 P1) (eN (Pk.o9 RT) Pk))) λr9=>?_;refine lp 15 ?_;refine Ql 16 ?_;refine cU k8 ?_ _;have Qa:=I (T.M8 (LA.trans ZL) (Gp.ext ZL) hsr Uv.o Kb);have MX:=I (Pk.setCell (p:=(IM w1 0)) (m9 _) (FB a7 n7 q7));have⟨W8,PT⟩:=j7 (w7.setCell (IM w1 0) (FB a7 n7 q7));rw[<-PT]at Qa MX;go_upto_region 25 with rfl;rw[<-PT];clear PT Tm cf7 r9;have b1:=aJ Qa.box;have b2:=aK Qa.box;exact NL
 have qq0:=@Tryz.results273;exact Rn
end
theorem gw(n:Nat)(s:Tb×Nat)(k:Nat):bP n s (k+1)=(bP n s k).bind λs'=>jM n s' k:=rfl
section
variable{n:Nat}{s:Tb×Nat}{k:Nat}{tt:Tb}{lf:Nat}
theorem sz(h:bP n s k=some (tt,lf))(hb:tt.basis[k]?.getD 0<n):bP n s (k+1)=some (tt,lf):=by
 rw[gw,h,kx];unfold jM;rw[i7 hb]
theorem sy(h:bP n s k=some (tt,lf))(hb:¬tt.basis[k]?.getD 0<n)(G:((tt.row k).take n).all (λc=>!Kj c)=true):bP n s (k+1)=some (tt,lf):=by
 rw[gw,h,kx];unfold jM;rw[f8 hb];simp only;rw[eF G,i7 O]
theorem Do(h:bP n s k=some (tt,lf))(hb:¬tt.basis[k]?.getD 0<n){j:Nat}(G:j<n)(hl:j<Lp (tt.row k))(K:((tt.row k).take j).all (λc=>!Kj c)=true)(H:Kj ((tt.row k)[j]?.getD (0,0))=true)(hlf:lf<=1000):
 bP n s (k+1)=(Jp tt (1000-lf) k j).map λx=>(x.1,1000-x.2):=by
 have hi:di Kj ((tt.row k).take n)=j:=by
  refine fP (d:=(0,0)) t8 (by rw[QA,TW O];exact K) ?_;rw[V0 G];exact H
 rw[gw,h,kx];unfold jM;rw[f8 hb];simp only;rw[hi,f8 O];unfold Jp;cases lf with
 | zero=>rw[i7 O];rfl
 | succ f =>
   rw[f8 O];simp only;cases bW tt k j with
   | none=>rfl
   | some t'=>simp only[tv];congr 2;omega
theorem su(h:bP n s k=some (tt,lf))(hb:¬tt.basis[k]?.getD 0<n){j:Nat}(K:j<n)(H:j<Lp (tt.row k))(Z:((tt.row k).take j).all (λc=>!Kj c)=true)(Q:Kj ((tt.row k)[j]?.getD (0,0))=true)(G:lf<=1000):
 ((bP n s (k+1)).map λx=>(x.1,1000-x.2))=Jp tt (1000-lf) k j:=by
 rw[Do h hb K H Z Q G];unfold Jp;split
 ·rfl
 next hn =>
 cases bW tt k j with
 | none=>rfl
 | some t'=>simp only[tv];congr 2;omega
theorem oM(h:bP n s k=none):∀{m:Nat},k<=m->bP n s m=none:=by
 intro m hm;obtain⟨d,rfl⟩:∃d,m=k+d:=⟨m-k,by omega⟩;clear hm
 induction d with
 | zero=>exact h
 | succ d ih=>rw[show k+(d+1)=(k+d)+1 by omega,gw,ih];rfl
end
theorem N5.more{S:Nat}{a b c:J}{o:Option (Tb×Nat)}(hx:D4 a b)(h:N5 S b c o):N5 S a c o:=⟨(aR.of hx).trans h.1,h.2⟩
theorem vG{p:o8}(H:j<Lp l)(G:l[j]?.getD (0,0)=p)(Q:(l.take j).all (λc=>!Kj c)=true)(K:Kj p=false):(l.take (j+1)).all (λc=>!Kj c)=true:=by
 rw[dO H,p7,Q,G];simp[K]
theorem lr(p q:Int):Kj (p,q)=!((p == 0)&&(q == 1)):=by unfold Kj;rw[uu];simp
theorem kQ(G:o3)(m:Nat):bQ G m=-1∨∃j:Nat,bQ G m=j/\j<m:=by
 unfold bQ;split
 ·exact uf rfl
 unfold di;split
 ·next i hi =>
  right;refine⟨i,rfl,?_⟩;have:=(pb.1 hi).1;rw[jt]at this;omega
 exact uf rfl
theorem vK{m:Nat}{T0:Nat->Nat->Rat}{cost:o3}:∀{f:Nat} {t:Tb} {p:Ph},Gy n m T0 t->bD cost f t=some p->p.Fm=-1∨∃j:Nat,p.Fm=j/\j<n:=by
 intro f
 induction f with
 | zero =>
   intro t p G h;unfold bD at h;cases hc:dE t cost with
   | none=>rw[hc]at h;cases h
   | some cs =>
     rw[hc]at h;simp only at h;split at h
     ·cases h;exact uf rfl
     split at h
     ·cases h;rw[G.A'];exact kQ cs n
     cases h
 | succ f ih =>
   intro t p G h;unfold bD at h;cases hc:dE t cost with
   | none=>rw[hc]at h;cases h
   | some cs =>
     rw[hc]at h;simp only at h;split at h
     ·cases h;exact uf rfl
     split at h
     ·cases h;rw[G.A'];exact kQ cs n
     cases H:bW t (dN t (bQ cs t.A')) (bQ cs t.A')with
     | none=>rw[H]at h;cases h
     | some t'=>rw[H]at h;exact ih (ia G H) h
theorem rE{t:Tb}(h:t.basis[k]?.getD 0<n):H5 t n Fm (k+1)=(H5 t n Fm k).set (t.basis[k]?.getD 0).toNat (D2 (t.at k Fm)):=by simp only[H5];rw[i7 h]
theorem uB{t:Tb}(h:¬t.basis[k]?.getD 0<n):H5 t n Fm (k+1)=H5 t n Fm k:=by simp only[H5];rw[f8 h]
theorem lk(t:Tb)(n Fm:Nat):∀k,Lp (H5 t n Fm k)=n
 | 0=>by simp[H5]
 | k+1=>by
   by_cases h:t.basis[k]?.getD 0<n
   ·rw[rE h,km];exact lk t n Fm k
   rw[uB h];exact lk t n Fm k
theorem Ez(t:Tb)(n Fm:Nat):H5 t n Fm 0=(List.replicate n ((0:Int),(1:Int))).set Fm (1,1):=by
 simp only[H5];apply Pl
 ·simp
 intro i h1 h2;rw[Y3];simp only[gz,ZD,List.getElem_replicate];by_cases h:i=Fm
 ·rw[i7 h,i7 h.symm]
 rw[f8 h,f8 (λe=>h e.symm)]
theorem i8.take{cap:Nat}(h:i8 w a n cap l)(G:k<=n):i8 w a k cap (l.take k) :=
 ⟨by rw[jt,h.hlen];omega,bR G h.y7,h.y8,λj hj=>by
  have⟨b,off,e,hc⟩:=h.cell j O;refine⟨b,off,e,λi hi=>?_⟩;rw[V0 hi]
  exact hc i O⟩
structure MW(w W:J)(g:Nat)(s:Int)(vx vy vr:atY)(p q piv:Int):Prop where
 ext:D4 w W
 hg:w.heap.size<=g
 box:W.heap[g]?=some (SH #[U s,vx,vy,vr,U p,U q,U piv] 128 (0,0))
abbrev R0:Obj:=SH #[.int .i64 0,FB none 0 0,FB none 0 0,FB none 0 0,.int .i64 0,.int .i64 0,.int .i64 0] 128
theorem MW.new(h:D4 w W):MW w (W.alloc R0) W 0 d9 (d9) d9 0 0 0:=⟨h.trans ZL,h.size,LE rfl⟩
theorem MW.grow{W':J}{g:Nat}{s:Int}{vx vy vr:atY}{p q:Int}(h:MW w W g s vx vy vr p q piv)(hx:D4 W W'):MW w W' g s vx vy vr p q piv:=⟨h.ext.trans hx,h.hg,(hx.block _ (IO h.box)).trans h.box⟩
theorem MW.put{g:Nat}{s:Int}{vx vy vr:atY}{p q:Int}(h:MW w W g s vx vy vr p q piv)(s':Int)(Z H vr':atY)(p' q' G:Int):
 MW w (((((((W.setCell (IM g 0) (U s')).setCell (IM g 1) Z).setCell (IM g 2) H).setCell (IM g 3) vr').setCell (IM g 4) (U p')).setCell (IM g 5) (U q')).setCell (IM g 6) (U G)) g s' Z H vr' p' q' G:=by
 refine⟨((((((h.ext.setCell (p:=(IM g 0)) h.hg _).setCell (p:=(IM g 1)) h.hg _).setCell (p:=(IM g 2)) h.hg _).setCell (p:=(IM g 3)) h.hg _).setCell (p:=(IM g 4)) h.hg _).setCell (p:=(IM g 5)) h.hg _).setCell (p:=(IM g 6)) h.hg _,h.hg,?_⟩;have b0:=aM W g 0 _ _ (U s') h.box;have b1:=aM _ g 1 _ _ Z b0;have b2:=aM _ g 2 _ _ H b1;have b3:=aM _ g 3 _ _ vr' b2;have b4:=aM _ g 4 _ _ (U p') b3;have b5:=aM _ g 5 _ _ (U q') b4;have b6:=aM _ g 6 _ _ (U G) b5;rw[b6];rfl
section
variable{w W:J}{g:Nat}{s:Int}{vx vy vr:atY}{p q piv:Int}
theorem MW.c0(h:MW w W g s vx vy vr p q piv):W.cell? (IM g 0)=some (U s):=by rw[UV W g _ _ _ _ h.box];rfl
theorem MW.c1(h:MW w W g s vx vy vr p q piv):W.cell? (IM g 1)=some vx:=by rw[UV W g _ _ _ _ h.box];rfl
theorem MW.c2(h:MW w W g s vx vy vr p q piv):W.cell? (IM g 2)=some vy:=by rw[UV W g _ _ _ _ h.box];rfl
theorem MW.c3(h:MW w W g s vx vy vr p q piv):W.cell? (IM g 3)=some vr:=by rw[UV W g _ _ _ _ h.box];rfl
theorem MW.c4(h:MW w W g s vx vy vr p q piv):W.cell? (IM g 4)=some (U p):=by rw[UV W g _ _ _ _ h.box];rfl
theorem MW.c5(h:MW w W g s vx vy vr p q piv):W.cell? (IM g 5)=some (U q):=by rw[UV W g _ _ _ _ h.box];rfl
theorem MW.c6(h:MW w W g s vx vy vr p q piv):W.cell? (IM g 6)=some (U piv):=by rw[UV W g _ _ _ _ h.box];rfl
theorem MW.free(h:MW w W g s vx vy vr p q piv)(k:Nat):W.frozen? (IM g k)=false:=fy W g k _ _ h.box
end
theorem MW.Fk(h:D4 (w.alloc R0).drew w'):MW w w' w 0 d9 (d9) d9 0 0 0 :=
 MW.grow ⟨ZL.trans fl,m9 _,nE w _⟩ h
theorem y9.mod{S:Nat}{v:atY}{l:o7}(h:y9 w b v l)(hm:aR S w w'){c:Array atY}{z:Nat×Nat}(hb:w.heap[S]?=some (SH c 236 z)):y9 w' b v l :=
 h.keep λk hk=>hm.block k (h.lt k hk).2 λe=>(aq h hb FS) N3
theorem ZM.Ld{cap:Nat}(h:ZM w b (FB a n cap) l)(hb:base<=b):On base w (λW=>i8 W a n cap l) :=
 λw2 H=>(h.keep λk G=>H k (bR hb (h.lt k G).1) (h.lt k G).2).rats
theorem ZM.Rq{cap:Nat}(h:ZM w b (FB a n cap) l)(hb:base<=b)(H:k<=n):On base w (λW=>i8 W a k cap (l.take k)) :=
 λG K=>(h.Ld hb G K).take H
theorem i8.PC(w:J):i8 w none 0 0 []:=⟨rfl,m9 _,by omega,λk G=>absurd G O⟩
structure KR(w:J)(base:Nat)(xa:o6)(xn xc:Nat)(ya:o6)(yn yc:Nat)(ra:o6)(rn rc:Nat)(r:I'):Prop where
 x:On base w λW=>i8 W xa xn xc r.X
 y:On base w λW=>i8 W ya yn yc r.Y
 Kc:On base w λW=>i8 W ra rn rc r.Kc
theorem KR.here(h:KR w base xa xn xc ya yn yc ra rn rc r):Ug w xa xn xc ya yn yc ra rn rc r:=⟨h.x.here,h.y.here,h.Kc.here⟩
theorem KR.ext(h:KR w base xa xn xc ya yn yc ra rn rc r)(hx:D4 w w'):KR w' base xa xn xc ya yn yc ra rn rc r:=⟨h.x.ext hx,h.y.ext hx,h.Kc.ext hx⟩
theorem KR.keep(h:KR w base xa xn xc ya yn yc ra rn rc r)(hs:w.heap.size<=w'.heap.size)(G:∀k,base<=k->k<w.heap.size->w'.heap[k]?=w.heap[k]?):KR w' base xa xn xc ya yn yc ra rn rc r :=
 ⟨h.x.keep hs G,h.y.keep hs G,h.Kc.keep hs G⟩
theorem KR.mono{base':Nat}(h:KR w base xa xn xc ya yn yc ra rn rc r)(hb:base'<=base):KR w base' xa xn xc ya yn yc ra rn rc r:=⟨h.x.mono hb,h.y.mono hb,h.Kc.mono hb⟩
theorem KR.zero(w:J)(base:Nat)(s:Int):KR w base none 0 0 none 0 0 none 0 0 (bh s):=⟨λw _=>i8.PC w,λw _=>i8.PC w,λw _=>i8.PC w⟩
end
section
variable{Y D:o3}{j n:Nat}{w:J}{a:o6}
section
variable{w:J}{a:o6}{na ca:Nat}{b:o6}{nb cb:Nat}{c:o6}{nc cc:Nat}{A:o4}{B:o7}{C:o3}
theorem pm(h:L6 w a na ca b nb cb c nc cc A B C)(ok:FT A B C=true){xa:o6}{xn Pz:Nat}{X:o3}(hX:i8 w xa xn Pz X):
 f9 318 #[JI a na ca b nb cb c nc cc,FB xa xn Pz] w (ato (eQ A B (Lp C) X)):=by
 have⟨r1,r2,r3,r4,r5,r6⟩:=dL h ok;subst r3;have B9:=D4.alloc w (bT a nb ca b nb cb c nc cc);refine Op B9 (h.ext B9) (hX.ext B9) (ah w (bT a nb ca b nb cb c nc cc) _ rfl) λIg H JT G=>?_;have⟨FQ,IH⟩:=h.c.ath;have⟨Gm,F0⟩:=h.b.ath;have⟨B0,C9⟩:=hX.ath;have K:=I (eY H);rw[ok]at K;have HE:=I (show eQ A B (Lp C) X=(decide (xn=nc)&&(LK X&&es A X B))by unfold eQ;rw[h.c.hlen,hX.hlen]);have Lv:=I r5;by_cases hn:xn=nc
 ·subst hn;have hee:((xn:Int) == (xn:Int))=true:=by simp
  have⟨pv,MF⟩:=j7 (LK X);have⟨gv,KF⟩:=j7 (es A X B);refine Fn (show eQ A B (Lp C) X=(pv&&gv)by rw[HE.o,<-MF,<-KF];simp) (λ(W:J) (hx:D4 (w.alloc (bT a nb ca b nb cb c xn cc)) W)=>mb (JT.ext hx)) (λ(W:J) (hx:D4 (w.alloc (bT a nb ca b nb cb c xn cc)) W)=>vZ (b:=b) (nb:=nb) (cb:=cb) (c:=c) (nc:=xn) (cc:=cc) (H.ext hx).a (JT.ext hx) (H.ext hx).b (m9 _) Lv) λIu HN HG=>?_;simp only[<-MF]at HN;simp only[<-KF]at HG;clear MF KF;cases pv
  ·(try unfold f9);go_in
   go_wp2_with rfl;refine i6 K λw1 hx=>?_;have X1:=I hx;have Z:=aK (X1.blk G);go_wp2_with rfl;refine i6 (HN _ X1) λw2 hx=>?_;go_wp2;go_ret;exact⟨ag Iu.symm,Ig.trans (X1.trans hx)⟩
  (try unfold f9);go_in
  go_wp2_with rfl;refine i6 K λw1 hx=>?_;have X1:=I hx;have Z:=aK (X1.blk G);go_wp2_with rfl;refine i6 (HN _ X1) λw2 hx=>?_;have X2:=I (X1.trans hx);have⟨p0,p1,Z⟩:=mc (X2.blk G);go_wp2_with rfl;refine i6 (HG _ X2) λw3 hx=>?_;go_wp2;go_ret;exact⟨ag Iu.symm,Ig.trans (X2.trans hx)⟩
 have hee:((xn:Int) == (nc:Int))=false:=t8;have HF:=I (show eQ A B (Lp C) X=false by rw[HE.o,RK hn];rfl);(try unfold f9);go_in
 go_wp2_with rfl;refine i6 K λw1 hx=>?_;have X1:=I hx;have Z:=aK (X1.blk G);have qq0:=@ag;exact Uy
theorem zG{A:o4}{Y D:o3}{j:Nat}(h:none=Fs (aI (FV A j)) Y):bL A Y D j=false:=by unfold bL;rw[lL,<-h]
theorem zH{A:o4}{Y D:o3}{j:Nat}{v d:o8}(h:some v=Fs (aI (FV A j)) Y)(G:D[j]?.getD (0,0)=d):bL A Y D j=decide (0<=D' d v):=by unfold bL;rw[lL,<-h,G]
theorem zd(h:L6 w a na ca b nb cb c nc cc A B C)(ok:FT A B C=true){ya:o6}{yn yc:Nat}{Y:o3}(hY:i8 w ya yn yc Y){da:o6}{dn dc:Nat}{D:o3}(hD:i8 w da dn dc D)(hdn:nc<=dn):
 f9 315 #[JI a na ca b nb cb c nc cc,FB ya yn yc,FB da dn dc] w (ato ((List.range (Lp C)).all (bL A Y D))):=by
 have⟨r1,r2,r3,r4,r5,r6⟩:=dL h ok;subst r3;have B9:=D4.alloc w (bT a nb ca b nb cb c nc cc);refine kv B9 (h.ext B9) (hY.ext B9) (hD.ext B9) (ah w (bT a nb ca b nb cb c nc cc) _ rfl) λB4 H R9 Mb HTB=>?_;have⟨FQ,IH⟩:=h.c.ath;have⟨RA,VC⟩:=hD.ath;refine Op ok (λj=>gZ (ki (A:=A) (λi hi=>(r5 i (l8 h.a.hlen)).2) j)) (show(List.range (Lp C)).all (bL A Y D)=(List.range nc).all (bL A Y D)by rw[h.c.hlen]) h.a.hlen λHo Sf HE Jc=>?_;(try unfold f9);go_in
 go_wp2
 go_loopg [7] nc (λgk ii wr=>∃k:Nat,e9 (gk+k=nc)/\ii=U k/\e9 ((List.range k).all (bL A Y D)=true)/\e9 (D4 (w.alloc (bT a nb ca b nb cb c nc cc)) wr))
 ·exact FC
 obtain⟨k,HK,rfl,HA,HX⟩:=hrel;have⟨p0,p1,p2⟩:=mc (HX.blk HTB);by_cases hlt:k<nc
 ·have MS:=I (CB (H.ext HX) Ho.o hlt);go_wp2_with rfl;refine PP MS λw2 v2 ho hx=>?_;obtain⟨a2,n2,c2,rfl,Jb⟩:=ho.var;have Pc:n2<=1048576:=by have h1:=Jb.o;rw[qK,Jc.o]at h1;omega
  have aa:=I (HX.trans hx);have G:=I (pQ ho.ints (Sf k) Pc (R9.ext aa));have⟨dv,SZ⟩:=Ok (Fs (aI (FV A k)) Y);rw[<-SZ.o]at G;cases dv with
  | none =>
    rw[show F9 none=((0,0),false)from rfl]at G;have HF:e9 ((List.range nc).all (bL A Y D)=false):=ek hlt (zG SZ);go_wp2_with rfl;refine i6 G λw3 C0=>?_;have X3:=I (aa.trans C0);have⟨E,Z⟩:=j7 (w3.alloc (SH #[U 0,U 0] 80));have XE:=I (show D4 w3 E by rw[Z];exact ZL);go_upto_region 5 with rfl;rw[<-Z];clear Z;have r7:=D4.drew E;refine k6 (S:=(λw'=>D4 E w')) k8 ?_ (λr9=>?_)
    ·exact r7
    refine ks ⟨?_⟩;refine Mp ⟨?_⟩;refine tk 7 ?_;refine tk 8 ?_;refine tk 9 ?_;refine tk 10 ?_;refine ST k8 ?_ _;go_wp2;go_ret;exact⟨ag (by rw[HE.o,HF.o]),((B4.trans X3).trans XE).trans r7⟩
  | some r =>
    obtain⟨r1,r2⟩:=r;rw[show F9 (some (r1,r2))=((r1,r2),true)from rfl]at G;go_wp2_with rfl;refine i6 G λw3 C0=>?_;have X3:=I (aa.trans C0);have⟨E,Z⟩:=j7 (w3.alloc (SH #[U r1,U r2] 80));have⟨gz,Rc⟩:=j7 w3.heap.size;have Ic:D4 w3 E:=by rw[Z];exact ZL
    have XE:=I (X3.trans Ic);have b0:E.cell? (IM gz 0)=some (U r1):=by rw[Z,Rc];simp
    have b1:E.cell? (IM gz 1)=some (U r2):=by rw[Z,Rc];simp
    have⟨db,QR,dx,dy,hda,R2,e0,e1⟩:=(Mb.ext XE).at (show k<dn by omega);subst hda;have⟨cm,Nx⟩:=j7 (D' (dx,dy) (r1,r2));have HB:=I (show bL A Y D k=decide (0<=cm)by rw[Nx];exact zH SZ.o R2);have Jz:=I (λw'=>eM dx dy r1 r2 w');simp only[<-Nx]at Jz;go_upto_region 5 with rfl;rw[<-Z,<-Rc];clear Z Rc Nx;have C4:=SW k dn
    have MI:=aE k;have r7:=D4.drew E;have r8:=I λw' (h:D4 E w')=>TX (h.o9 e0) (TX (h.o9 e1) (TX (h.o9 b0) (TX (h.o9 b1) h)));refine kp r8 r7 λr9=>?_;refine ks ⟨?_⟩;refine Mp ⟨?_⟩;refine tk 7 ?_;refine rd 8 λK hK=>?_;go_simp
    (go_at_call 266;refine i6 (Jz _) λw4 E4=>?_;have r7:=r7.trans E4)
    go_wp2_with rfl;refine KO (r8 _ r7) λr9=>?_;refine tk 9 ?_;refine tk 10 ?_;refine ST k8 ?_ _;have X2:=I (XE.trans r7);by_cases Fo:cm<0
    ·have HF:e9 ((List.range nc).all (bL A Y D)=false):=ek hlt (by rw[HB.o];simp;omega);go_wp2;go_ret;exact⟨ag (by rw[HE.o,HF.o]),B4.trans X2.o⟩
    have HT:=I (show(List.range (k+1)).all (bL A Y D)=true by rw[jI,HA.o,HB.o];simp;omega);exact S7
 have E':nc=k:=l8 HK.o;subst E';have qq0:=@ag;exact H3
end
section
variable{w:J}{a:o6}{na ca:Nat}{b:o6}{nb cb:Nat}{c:o6}{nc cc:Nat}{A:o4}{B:o7}{C:o3}
 {xa:o6} {xn xc:Nat} {ya:o6} {yn yc:Nat} {ra:o6} {rn rc:Nat} {r:I'}
def Vl(A:o4)(B:o7)(C:o3)(r:I'):Bool:=eQ A B (Lp C) r.X&&(decide (Lp r.Y=Lp B)&&((List.range (Lp C)).all (bL A r.Y C)&&ku B C r))
theorem Ah(h:L6 w a na ca b nb cb c nc cc A B C)(h':Ug w xa xn xc ya yn yc ra rn rc r)(ok:FT A B C=true):
 f9 313 #[JI a na ca b nb cb c nc cc,JA r xa xn xc ya yn yc ra rn rc] w (ato (Vl A B C r)):=by
 have⟨r1,r2,r3,r4,r5,r6⟩:=dL h ok;subst r3;have T0:=I (k7.zero h h');have⟨F7,Mz⟩:=h'.y.ath;have⟨FQ,IH⟩:=h.c.ath;have⟨Gm,F0⟩:=h.b.ath;have Ho:=I ok;have aaX:=I (gZ r6);obtain⟨st,rX,H,rr,rv,rp⟩:=r;obtain⟨v1,v2⟩:=rv;have⟨fv,hfv⟩:=j7 (eQ A B (Lp C) rX);have aa:=I (show Vl A B C ⟨st,rX,H,rr,(v1,v2),rp⟩=(fv&&(decide (yn=nb)&&((List.range (Lp C)).all (bL A H C)&&ku B C ⟨st,rX,H,rr,(v1,v2),rp⟩)))by
  unfold Vl;rw[hfv,h.b.hlen];simp only;rw[show H.length=yn from h'.y.hlen])
 have HF:=I (λ(W:J) (t:k7 w W a nb ca b nb cb c nc cc xa xn xc ya yn yc ra rn rc ⟨st,rX,H,rr,(v1,v2),rp⟩ A B C)=>pm t.lp Ho.o t.lr.x);simp only[<-hfv]at HF;have⟨dv,LB⟩:=j7 ((List.range (Lp C)).all (bL A H C));have HD:=I (λ(W:J) (t:k7 w W a nb ca b nb cb c nc cc xa xn xc ya yn yc ra rn rc ⟨st,rX,H,rr,(v1,v2),rp⟩ A B C)=>zd t.lp Ho.o t.lr.y t.lp.c (m9 _));simp only[<-LB]at HD;rw[<-LB]at aa;clear hfv LB;have⟨V,hV⟩:=j7 (Vl A B C ⟨st,rX,H,rr,(v1,v2),rp⟩);rw[<-hV];have Vf:=I (hV.trans aa);clear hV;cases fv
 ·have HZ:=I (show false=V by rw[Vf.o];rfl);(try unfold f9);go_in
  have⟨p0,p1,p2⟩:=T0.p;have⟨q0,q1,q2,q3,q4,q5⟩:=T0.q;go_wp2_with rfl;refine i6 (HF _ T0) λw1 hx=>?_;have G:=I (T0.grow hx);go_wp2;go_ret;exact⟨ag HZ.o,G.all⟩
 by_cases Nb:yn=nb
 ·subst Nb;have hne:((yn:Int) != (yn:Int))=false:=by simp
  cases dv
  ·have HZ:=I (show false=V by rw[Vf.o];simp);(try unfold f9);go_in
   have⟨p0,p1,p2⟩:=T0.p;have⟨q0,q1,q2,q3,q4,q5⟩:=T0.q;go_wp2_with rfl;refine i6 (HF _ T0) λw1 hx=>?_;have G:=I (T0.grow hx);have⟨p0,p1,p2⟩:=G.p;have⟨q0,q1,q2,q3,q4,q5⟩:=G.q;go_wp2_with rfl;refine i6 (HD _ G) λw2 hx=>?_;have ab:=I (G.grow hx);go_wp2;go_ret;exact⟨ag HZ.o,ab.all⟩
  have⟨dx,R2⟩:=j7 (Fs C rX);have⟨dy,T7⟩:=j7 (Fs (aI B) H);have HM:=I (show V=nt dx dy (v1,v2)by
   rw[Vf.o,R2,T7];simp only[wq,decide_true];rw[yt];simp only;rw[lL H])
  have Tx:=I (λ(W:J) (t:k7 w W a yn ca b yn cb c nc cc xa xn xc ya yn yc ra rn rc ⟨st,rX,H,rr,(v1,v2),rp⟩ A B C)=>rH t.lp.c t.lr.x);have HDY:=I (λ(W:J) (t:k7 w W a yn ca b yn cb c nc cc xa xn xc ya yn yc ra rn rc ⟨st,rX,H,rr,(v1,v2),rp⟩ A B C)=>pQ t.lp.b aaX.o O t.lr.y);simp only[<-R2]at Tx;simp only[<-T7]at HDY;clear R2 T7;obtain⟨x1,x2,K,RY⟩:∃x1 x2 K,F9 dx=((x1,x2),K):=⟨_,_,_,rfl⟩;obtain⟨y1,y2,Rn,Rt⟩:∃y1 y2 Rn,F9 dy=((y1,y2),Rn):=⟨_,_,_,rfl⟩;have JT:=I RY;have R9:=I Rt;simp only[RY]at Tx;simp only[Rt]at HDY;(try unfold f9);go_in
  have⟨p0,p1,p2⟩:=T0.p;have⟨q0,q1,q2,q3,q4,q5⟩:=T0.q;go_wp2_with rfl;refine i6 (HF _ T0) λw1 hx=>?_;have G:=I (T0.grow hx);have⟨p0,p1,p2⟩:=G.p;have⟨q0,q1,q2,q3,q4,q5⟩:=G.q;go_wp2_with rfl;refine i6 (HD _ G) λw2 hx=>?_;have ab:=I (G.grow hx);have⟨p0,p1,p2⟩:=ab.p;have⟨q0,q1,q2,q3,q4,q5⟩:=ab.q;go_wp2_with rfl;refine i6 (Tx _ ab) λw3 hx=>?_;have⟨E,hE⟩:=j7 (w3.alloc (SH #[U x1,U x2] 80));have⟨gx,hgx⟩:=j7 w3.heap.size;have Ic:D4 w3 E:=by rw[hE];exact ZL
  have TE:=I ((ab.grow hx).grow Ic);have Mo:=I (show ai w3 E gx x1 x2 by rw[hE,hgx];exact ai.new So _ _);go_upto_region 4 with rfl;rw[<-hE,<-hgx];clear hE hgx;have⟨p0,p1,p2⟩:=TE.p;have⟨q0,q1,q2,q3,q4,q5⟩:=TE.q;go_wp2_with rfl;refine i6 (HDY _ TE) λw4 hx=>?_;have⟨F,hF⟩:=j7 (w4.alloc (SH #[U y1,U y2] 80));have⟨gy,hgy⟩:=j7 w4.heap.size;have hxF:D4 w4 F:=by rw[hF];exact ZL
  refine Fn ((TE.grow hx).grow hxF) (Mo.grow (hx.trans hxF)) (show ai w4 F gy y1 y2 by rw[hF,hgy];exact ai.new So _ _) λT2 GL FJ=>?_;go_upto_region 5 with rfl;rw[<-hF,<-hgy];clear hF hgy;have⟨p0,p1,p2⟩:=T2.p;have⟨q0,q1,q2,q3,q4,q5⟩:=T2.q;have c0:=GL.c0;have c1:=GL.c1;have g0:=FJ.c0;have g1':=FJ.c1;cases dx with
  | none =>
    have LY:K=false:=by have:=JT.o;simp only[F9]at this;simpa using (IR Prod.snd this).symm
    subst LY;go_wp2;go_ret;exact⟨ag (by rw[HM.o,(nu _ _).1]),T2.all⟩
  | some xv =>
    have LY:K=true:=by have:=JT.o;simp only[F9]at this;simpa using (IR Prod.snd this).symm
    have NP:xv=(x1,x2):=by have:=JT.o;simp only[F9]at this;simpa using IR Prod.fst this
    subst LY NP;cases dy with
    | none =>
      have LY:Rn=false:=by have:=R9.o;simp only[F9]at this;simpa using (IR Prod.snd this).symm
      subst LY;go_wp2;go_ret;exact⟨ag (by rw[HM.o,(nu _ _).2]),T2.all⟩
    | some yv =>
      have LY:Rn=true:=by have:=R9.o;simp only[F9]at this;simpa using (IR Prod.snd this).symm
      have NP:yv=(y1,y2):=by have:=R9.o;simp only[F9]at this;simpa using IR Prod.fst this
      subst LY NP;have OV:=I (show V=(((x1 == y1)&&(x2 == y2))&&((x1 == v1)&&(x2 == v2)))by rw[HM.o,sU]);cases h1:(x1 == y1)
      all_goals
       cases h2:(x2 == y2)
      all_goals
       have HE:=I OV.o;rw[h1,h2]at HE
      all_goals try(
       have HF:=I (show V=false by rw[HE.o];rfl);go_wp2;go_ret;exact⟨ag HF.symm,T2.all⟩)
      cases h3:(x1 == v1)
      all_goals
       cases h4:(x2 == v2)
      all_goals
       rw[h3,h4]at HE;exact td
 have hne:((yn:Int) != (nb:Int))=true:=t8;have HZ:=I (show false=V by rw[Vf.o,RK Nb];rfl);(try unfold f9);go_in
 have⟨p0,p1,p2⟩:=T0.p;have⟨q0,q1,q2,q3,q4,q5⟩:=T0.q;go_wp2_with rfl;refine i6 (HF _ T0) λw1 hx=>?_;have G:=I (T0.grow hx);have⟨p0,p1,p2⟩:=G.p;have⟨q0,q1,q2,q3,q4,q5⟩:=G.q;go_wp2;go_ret;exact⟨ag HZ.o,G.all⟩
end
theorem Di{v:o8}(G:A5 v=true):decide (0<=D' (0,1) v)=decide (v.1<=0):=by
 have hb:=aV G;unfold D';rw[i7 (by rw[G];decide)];simp only;by_cases h:v.1<=0
 ·rw[f8 O,bl h];split<;>rfl
 rw[i7 O,RK h];rfl
theorem zI(A:o4)(Y:o3)(Q:∀j,j<n->D[j]?.getD (0,0)=(0,1)):(List.range n).all (bL A Y D)=(List.range n).all (Sx A Y):=by
 rw[uu,fp,fp];have H:∀j,j<n->bL A Y D j=Sx A Y j:=by
  intro j G;unfold bL Sx Vf;rw[Q j G];cases K:Fs Y (aI (FV A j))with
  | none=>rfl
  | some v=>exact Di (eH K).2.1
 constructor
 ·intro h j G;rw[<-H j (nM.1 G)];exact h j G
 intro h j G;rw[H j (nM.1 G)];exact h j G
theorem yI(h:j<n):(List.replicate n ((0:Int),(1:Int)))[j]?.getD (0,0)=(0,1):=by rw[I0,i7 h];rfl
section
variable{w:J}{a:o6}{na ca:Nat}{b:o6}{nb cb:Nat}{c:o6}{nc cc:Nat}{A:o4}{B:o7}{C:o3}
 {xa:o6} {xn xc:Nat} {ya:o6} {yn yc:Nat} {ra:o6} {rn rc:Nat} {r:I'}
theorem Cy(h:L6 w a na ca b nb cb c nc cc A B C)(G:Ug w xa xn xc ya yn yc ra rn rc r)(ok:FT A B C=true)(hs:r.status=1):
 f9 259 #[JI a na ca b nb cb c nc cc,JA r xa xn xc ya yn yc ra rn rc] w (ato (aQ bL A B C r)):=by
 have⟨r1,r2,r3,r4,r5,r6⟩:=dL h ok;subst r3;have T0:=I (k7.zero h G);have⟨F7,Mz⟩:=G.y.ath;have⟨FL,Hs⟩:=G.Kc.ath;have⟨FQ,IH⟩:=h.c.ath;have⟨Gm,F0⟩:=h.b.ath;refine Fn ok (gZ r6) r5 λHo aaX Lv=>?_;obtain⟨st,rX,Z,Q,rv,K⟩:=r;obtain⟨v1,v2⟩:=rv;simp only at hs;subst hs;refine kv G.y.hlen h.b.hlen h.c.hlen G.Kc.hlen (eY T0.lp) λTu Hj Ji GS HV=>?_;rw[ok]at HV;have⟨V,hV⟩:=j7 (aQ bL A B C ⟨1,rX,Z,Q,(v1,v2),K⟩);rw[<-hV];have Kx:=I (show V=Vl A B C ⟨1,rX,Z,Q,(v1,v2),K⟩by rw[hV];unfold aQ Vl;rw[i7 rfl]);have NA:=I (λ(W:J) (t:k7 w W a nb ca b nb cb c nc cc xa xn xc ya yn yc ra rn rc ⟨1,rX,Z,Q,(v1,v2),K⟩ A B C)=>Ah t.lp t.lr Ho);simp only[<-Kx.o]at NA;clear hV;(try unfold f9);go_in
 have⟨p0,p1,p2⟩:=T0.p;have⟨q0,q1,q2,q3,q4,q5⟩:=T0.q;go_wp2_with rfl;refine i6 HV λw1 hx=>?_;have H:=I (T0.grow hx);have⟨p0,p1,p2⟩:=H.p;have⟨q0,q1,q2,q3,q4,q5⟩:=H.q;have T1F:=I (H.ext.o9 (v:=U K) (a:=(IM (w+1) 6)) j9);have q6:=T1F.o;go_wp2_with rfl;refine i6 (NA _ H) λw2 hx=>?_;have T2:=I (H.grow hx);go_wp2;go_ret;exact⟨rfl,T2.all⟩
def M'(h:σ:=by
 refine kp r8 r7 λr9=>?_;refine ta ⟨?_⟩;refine rd 14 λK hK=>?_;go_simp
 (go_at_call 316;refine(me nc O).mono ?_;rintro e w3 ⟨⟨v3,rfl,Gw⟩,C0⟩;have r7:=r7.trans C0;obtain⟨a3,n3,c3,rfl,Nw⟩:=Gw.var;have Qq:nc<=n3:=by(have h1:=Nw.out;rw[yl]at h1;omega))
 go_wp2_with rfl;refine KO (r8 _ r7) λr9=>?_;refine rd 15 λK hK=>?_;go_simp
 (go_at_call 315;refine(HDU _ (TE.grow r7) _ _ _ Gw.rats Qq).mono ?_;rintro e w4 ⟨rfl,E4⟩;have r7:=r7.trans E4)
 go_wp2_with rfl;refine KO (r8 _ r7) λr9=>?_;refine tk 16 ?_;refine tk 17 ?_;refine UN ⟨?_⟩;refine tk 21 ?_;refine tk 22 ?_;refine RQ ⟨?_⟩;refine ST k8 ?_ _;go_wp2;go_ret;exact⟨ag HZ.o,(TE.grow r7).all⟩
 ):σ:=h
theorem Cz(h:L6 w a na ca b nb cb c nc cc A B C)(h':Ug w xa xn xc ya yn yc ra rn rc r)(ok:FT A B C=true)(hs:r.status=2):
 f9 259 #[JI a na ca b nb cb c nc cc,JA r xa xn xc ya yn yc ra rn rc] w (ato (aQ bL A B C r)):=by
 have⟨r1,r2,r3,r4,r5,r6⟩:=dL h ok;subst r3;have T0:=I (k7.zero h h');have⟨F7,Mz⟩:=h'.y.ath;have⟨FL,Hs⟩:=h'.Kc.ath;have⟨FQ,IH⟩:=h.c.ath;have⟨Gm,F0⟩:=h.b.ath;have Ho:=I ok;have aaX:=I (gZ r6);obtain⟨st,rX,G,rr,rv,rp⟩:=r;obtain⟨v1,v2⟩:=rv;simp only at hs;subst hs;have Tu:=I h'.y.hlen;have Hj:=I h.b.hlen;have Ji:=I h.c.hlen;have GS:=I h'.Kc.hlen;have HV:=I (eY T0.lp);rw[ok]at HV;have⟨V,hV⟩:=j7 (aQ bL A B C ⟨2,rX,G,rr,(v1,v2),rp⟩);rw[<-hV];have⟨dv,LB⟩:=j7 ((List.range (Lp C)).all (bL A G (List.replicate nc (0,1))));have⟨dy,T7⟩:=j7 (Fs (aI B) G);have Kx:=I (show V=(decide (yn=nb)&&(dv&&XY dy))by
  rw[hV,LB,T7];unfold aQ;rw[f8 j9,i7 rfl];simp only;rw[th,Hj.o,show G.length=yn from Tu.o,lL G,zI A G (λj hj=>yI (by rw[<-Ji.o];exact hj))])
 have HDU:=I (λ(W:J) (t:k7 w W a nb ca b nb cb c nc cc xa xn xc ya yn yc ra rn rc ⟨2,rX,G,rr,(v1,v2),rp⟩ A B C) (za:o6) (zn zc:Nat) (hz:i8 W za zn zc (List.replicate nc (0,1))) (Vn:nc<=zn)=>zd t.lp Ho.o t.lr.y hz Vn);have HDY:=I (λ(W:J) (t:k7 w W a nb ca b nb cb c nc cc xa xn xc ya yn yc ra rn rc ⟨2,rX,G,rr,(v1,v2),rp⟩ A B C)=>pQ t.lp.b aaX.o O t.lr.y);simp only[<-LB]at HDU;simp only[<-T7]at HDY;obtain⟨y1,y2,Rn,Rt⟩:∃y1 y2 Rn,F9 dy=((y1,y2),Rn):=⟨_,_,_,rfl⟩;simp only[Rt]at HDY;have R9:=I (show XY dy=(Rn&&decide (0<y1))by
  cases dy with
  | none=>simp only[F9]at Rt;cases Rt;rfl
  | some v=>obtain⟨z1,z2⟩:=v;simp only[F9,NE,YO,sj]at Rt;obtain⟨⟨rfl,rfl⟩,rfl⟩:=Rt;rfl)
 clear h h' ok r4 r5 r6;clear hV LB T7 Rt;have JE:((2:Int) == 1)=false:=by decide
 (try unfold f9);go_in
 have⟨p0,p1,p2⟩:=T0.p;have⟨q0,q1,q2,q3,q4,q5⟩:=T0.q;go_wp2_with rfl;refine qc HV λw1 hx=>?_;have T1:=I (T0.grow hx);clear p0 p1 p2 q0 q1 q2 q3 q4 q5;have⟨p0,p1,p2⟩:=T1.p;have⟨q0,q1,q2,q3,q4,q5⟩:=T1.q;go_wp2_with rfl;refine qc (HDY _ T1) λw2 hx=>?_;have⟨E,hE⟩:=j7 (w2.alloc (SH #[U y1,U y2] 80));have⟨gx,H⟩:=j7 w2.heap.size;have Ic:D4 w2 E:=by rw[hE];exact ZL
 have TE:=I ((T1.grow hx).grow Ic);have Mo:=I (show ai w2 E gx y1 y2 by rw[hE,H];exact ai.new So _ _);go_upto_region 8 with rfl;rw[<-hE,<-H];clear hE Ic H p0 p1 p2 q0 q1 q2 q3 q4 q5;have⟨p0,p1,p2⟩:=TE.p;have⟨q0,q1,q2,q3,q4,q5⟩:=TE.q;have b0:=Mo.c0;have b1:=Mo.c1;have r7:=D4.drew E;have r8:=I λw' (h:D4 E w')=>TX (h.o9 p0) (TX (h.o9 p1) (TX (h.o9 p2) (TX (h.o9 q2) (TX (h.o9 b0) (TX (h.o9 b1) h)))));by_cases Nb:yn=nb
 ·have hne:((yn:Int) == (nb:Int))=true:=by simp;omega
  have HYN:=I Nb;clear Nb;cases dv
  ·have HZ:=I (show false=V by rw[Kx.o];simp);exact M'
  cases Rn
  ·have HZ:=I (show false=V by rw[Kx.o,R9.o,bl HYN.o];simp);exact M'
  have HZ:=I (show decide (0<y1)=V by rw[Kx.o,R9.o,bl HYN.o];simp);exact M'
 have hne:((yn:Int) == (nb:Int))=false:=t8;have HZ:=I (show false=V by rw[Kx.o,RK Nb];rfl);clear Nb;refine kp r8 r7 λr9=>?_;refine ta ⟨?_⟩;refine C2 ⟨?_⟩;refine RQ ⟨?_⟩;refine ST k8 ?_ _;go_wp2;go_ret;exact⟨ag HZ.o,(TE.grow r7).all⟩
def Sl(h:σ:=by
 refine kp r8 r7 λr9=>?_;refine ks ⟨?_⟩;refine rd 3 λK hK=>?_;go_simp
 (go_at_call 318;refine(HF _ (TE.grow r7)).mono ?_;rintro e w3 ⟨rfl,C0⟩;have r7:=r7.trans C0)
 go_wp2_with rfl;refine KO (r8 _ r7) λr9=>?_;refine VU ⟨?_⟩;refine O5 ⟨?_⟩;refine tk 14 ?_;refine tk 15 ?_;refine rd 16 λK hK=>?_;go_simp
 (go_at_call 319;refine(HN _ (TE.grow r7)).mono ?_;rintro e w4 ⟨rfl,E4⟩;have r7:=r7.trans E4)
 go_wp2_with rfl;refine KO (r8 _ r7) λr9=>?_;refine tk 17 ?_;refine UN ⟨?_⟩;refine tk 21 ?_;refine tk 22 ?_;refine tk 23 ?_;refine tk 24 ?_;have TG:=I (TE.grow r7);have hk9:=r7;have r7:=hk9.trans (D4.alloc w4 (SH (bF (List.replicate nb 0)) 3));refine rd 25 λK hK=>?_;go_simp;refine KO (r8 _ r7) λr9=>?_;refine rd 26 λK hK=>?_;go_simp
 (go_at_call 320;refine(Lx _ TG).mono ?_;rintro e w5 ⟨rfl,F'⟩;have r7:=r7.trans F')
 go_wp2_with rfl;refine KO (r8 _ r7) λr9=>?_;refine Ud ⟨?_⟩;refine ST k8 ?_ _;go_wp2;go_ret;exact⟨ag HZ.o,(TE.grow r7).all⟩
 ):σ:=h
def VE(h:σ:=by
 refine kp r8 r7 λr9=>?_;refine ks ⟨?_⟩;refine rd 3 λK hK=>?_;go_simp
 (go_at_call 318;refine(HF _ (TE.grow r7)).mono ?_;rintro e w3 ⟨rfl,C0⟩;have r7:=r7.trans C0)
 go_wp2_with rfl;refine KO (r8 _ r7) λr9=>?_;refine VU ⟨?_⟩;refine O5 ⟨?_⟩;refine C2 ⟨?_⟩;refine RQ ⟨?_⟩;refine tk 26 ?_;refine Ud ⟨?_⟩;refine ST k8 ?_ _;go_wp2;go_ret;exact⟨ag HZ.o,(TE.grow r7).all⟩
 ):σ:=h
theorem CA(h:L6 w a na ca b nb cb c nc cc A B C)(h':Ug w xa xn xc ya yn yc ra rn rc r)(ok:FT A B C=true)(hs:r.status=3):
 f9 259 #[JI a na ca b nb cb c nc cc,JA r xa xn xc ya yn yc ra rn rc] w (ato (aQ bL A B C r)):=by
 have⟨r1,r2,r3,r4,r5,r6⟩:=dL h ok;subst r3;have T0:=I (k7.zero h h');have⟨F7,Mz⟩:=h'.y.ath;have⟨FL,Hs⟩:=h'.Kc.ath;have⟨FQ,IH⟩:=h.c.ath;have⟨Gm,F0⟩:=h.b.ath;have Ho:=I ok;have Lv:=I r5;obtain⟨st,rX,rY,G,rv,rp⟩:=r;obtain⟨v1,v2⟩:=rv;simp only at hs;subst hs;have Hj:=I h.b.hlen;have Ji:=I h.c.hlen;have GS:=I h'.Kc.hlen;have HV:=I (eY T0.lp);rw[ok]at HV;have⟨V,hV⟩:=j7 (aQ bL A B C ⟨3,rX,rY,G,(v1,v2),rp⟩);rw[<-hV];have⟨fv,hfv⟩:=j7 (eQ A B (Lp C) rX);have⟨pv,MF⟩:=j7 (LK G);have⟨gv,KF⟩:=j7 (es A G (List.replicate nb 0));have⟨dx,R2⟩:=j7 (Fs C G);have Kx:=I (show V=(fv&&((decide (rn=nc)&&pv)&&(gv&&Yn dx)))by
  rw[hV,hfv,MF,KF,R2];unfold aQ;rw[f8 j9,f8 j9,i7 rfl];simp only;rw[AS,Hj.o,Ji.o,show G.length=rn from GS.o])
 have HF:=I (λ(W:J) (t:k7 w W a nb ca b nb cb c nc cc xa xn xc ya yn yc ra rn rc ⟨3,rX,rY,G,(v1,v2),rp⟩ A B C)=>pm t.lp Ho.o t.lr.x);have HN:=I (λ(W:J) (t:k7 w W a nb ca b nb cb c nc cc xa xn xc ya yn yc ra rn rc ⟨3,rX,rY,G,(v1,v2),rp⟩ A B C)=>mb t.lr.Kc);have hmk:=jk nb O;have Lx:=I (λ(W:J) (t:k7 w W a nb ca b nb cb c nc cc xa xn xc ya yn yc ra rn rc ⟨3,rX,rY,G,(v1,v2),rp⟩ A B C)=>vZ (b:=b) (nb:=nb) (cb:=cb) (c:=c) (nc:=nc) (cc:=cc) (t.grow (D4.alloc W (SH (bF (List.replicate nb 0)) 3))).lp.a (t.grow (D4.alloc W (SH (bF (List.replicate nb 0)) 3))).lr.Kc (kg.ints (show kg (W.alloc (SH (bF (List.replicate nb 0)) 3)) W 3 (List.replicate nb 0)from nE _ _) j9 (m9 nb) O) (m9 _) Lv);have Tx:=I (λ(W:J) (t:k7 w W a nb ca b nb cb c nc cc xa xn xc ya yn yc ra rn rc ⟨3,rX,rY,G,(v1,v2),rp⟩ A B C)=>rH t.lp.c t.lr.Kc);simp only[<-hfv]at HF;simp only[<-MF]at HN;simp only[<-KF]at Lx;simp only[<-R2]at Tx;obtain⟨x1,x2,xok,RY⟩:∃y1 y2 Rn,F9 dx=((y1,y2),Rn):=⟨_,_,_,rfl⟩;simp only[RY]at Tx;have JT:=I (show Yn dx=(xok&&decide (x1<0))by
  cases dx with
  | none=>simp only[F9]at RY;cases RY;rfl
  | some v=>obtain⟨z1,z2⟩:=v;simp only[F9,NE,YO,sj]at RY;obtain⟨⟨rfl,rfl⟩,rfl⟩:=RY;rfl)
 clear h h' ok r4 r5 r6;clear hV hfv MF KF R2 RY;have JE:((3:Int) == 1)=false:=by decide
 have IN:((3:Int) == 2)=false:=by decide
 (try unfold f9);go_in
 have⟨p0,p1,p2⟩:=T0.p;have⟨q0,q1,q2,q3,q4,q5⟩:=T0.q;go_wp2_with rfl;refine qc HV λw1 hx=>?_;have T1:=I (T0.grow hx);clear p0 p1 p2 q0 q1 q2 q3 q4 q5;have⟨p0,p1,p2⟩:=T1.p;have⟨q0,q1,q2,q3,q4,q5⟩:=T1.q;go_wp2_with rfl;refine qc (Tx _ T1) λw2 hx=>?_;have⟨E,hE⟩:=j7 (w2.alloc (SH #[U x1,U x2] 80));have⟨gx,H⟩:=j7 w2.heap.size;have Ic:D4 w2 E:=by rw[hE];exact ZL
 have TE:=I ((T1.grow hx).grow Ic);have Mo:=I (show ai w2 E gx x1 x2 by rw[hE,H];exact ai.new So _ _);go_upto_region 11 with rfl;rw[<-hE,<-H];clear hE Ic H p0 p1 p2 q0 q1 q2 q3 q4 q5;have⟨p0,p1,p2⟩:=TE.p;have⟨q0,q1,q2,q3,q4,q5⟩:=TE.q;have b0:=Mo.c0;have b1:=Mo.c1;have r7:=D4.drew E;have r8:=I λw' (h:D4 E w')=>TX (h.o9 p0) (TX (h.o9 p1) (TX (h.o9 p2) (TX (h.o9 q1) (TX (h.o9 q3) (TX (h.o9 b0) (TX (h.o9 b1) h))))));cases fv
 ·have HZ:=I (show false=V by rw[Kx.o];rfl);exact VE
 by_cases Kk:rn=nc
 ·have hne:((rn:Int) == (nc:Int))=true:=by simp;omega
  have NX:=I Kk;clear Kk;cases pv
  ·have HZ:=I (show false=V by rw[Kx.o];simp);refine kp r8 r7 λr9=>?_;refine ks ⟨?_⟩;refine rd 3 λK hK=>?_;go_simp
   (go_at_call 318;refine i6 (HF _ (TE.grow r7)) λw3 C0=>?_;have r7:=r7.trans C0)
   go_wp2_with rfl;refine KO (r8 _ r7) λr9=>?_;refine VU ⟨?_⟩;refine O5 ⟨?_⟩;refine tk 14 ?_;refine tk 15 ?_;refine rd 16 λK hK=>?_;go_simp
   (go_at_call 319;refine i6 (HN _ (TE.grow r7)) λw4 E4=>?_;have r7:=r7.trans E4)
   go_wp2_with rfl;refine KO (r8 _ r7) λr9=>?_;refine tk 17 ?_;refine UN ⟨?_⟩;refine tk 21 ?_;refine tk 22 ?_;refine RQ ⟨?_⟩;refine tk 26 ?_;refine Ud ⟨?_⟩;refine ST k8 ?_ _;go_wp2;go_ret;exact⟨ag HZ.o,(TE.grow r7).all⟩
  cases gv
  ·have HZ:=I (show false=V by rw[Kx.o];simp);exact Sl
  cases xok
  ·have HZ:=I (show false=V by rw[Kx.o,JT.o,bl NX.o];simp);exact Sl
  have HZ:=I (show decide (x1<0)=V by rw[Kx.o,JT.o,bl NX.o];simp);exact Sl
 have hne:((rn:Int) == (nc:Int))=false:=t8;have HZ:=I (show false=V by rw[Kx.o,RK Kk];rfl);clear Kk;exact VE
theorem EI(h:L6 w a na ca b nb cb c nc cc A B C)(G:Ug w xa xn xc ya yn yc ra rn rc r)(ok:FT A B C=true):
 f9 259 #[JI a na ca b nb cb c nc cc,JA r xa xn xc ya yn yc ra rn rc] w (ato (aQ bL A B C r)):=by
 by_cases Q:r.status=1
 ·exact Cy h G ok Q
 by_cases K:r.status=2
 ·exact Cz h G ok K
 by_cases H:r.status=3
 ·exact CA h G ok H
 have HE:=I (show aQ bL A B C r=false by unfold aQ;rw[f8 Q,f8 K,f8 H]);have T0:=I (k7.zero h G);have HV:=I (eY T0.lp);rw[ok]at HV;obtain⟨st,rX,rY,rr,rv,rp⟩:=r;obtain⟨v1,v2⟩:=rv;simp only at Q K H;have e1:(st == 1)=false:=t8;have e2:(st == 2)=false:=t8;have e3:(st == 3)=false:=t8;clear h G Q K H;(try unfold f9);go_in
 have⟨p0,p1,p2⟩:=T0.p;have⟨q0,q1,q2,q3,q4,q5⟩:=T0.q;go_wp2_with rfl;refine qc HV λw1 hx=>?_;have Z:=I (T0.grow hx);clear p0 p1 p2 q0 q1 q2 q3 q4 q5;have⟨p0,p1,p2⟩:=Z.p;have⟨q0,q1,q2,q3,q4,q5⟩:=Z.q;go_wp2;go_ret;exact⟨ag HE.symm,Z.all⟩
end
def RZ(h:σ:=by
 have E':k=n:=by have:=HK.o;omega
 subst E';go_wp2;go_ret2;exact⟨⟨_,gH (by rw[HS.o,HR.o];rfl),by rw[HS.o,HR.o];exact HO1.mono (bq _)⟩,HX.trans A6.o⟩
 ):σ:=h
def RV(h:σ:=by
 go_ret2;exact⟨⟨_,gH (by rw[HS.o,HN.o];rfl),by rw[HS.o,HN.o];exact ZM.made _ _ O⟩,HX.trans (X2.trans ZL)⟩
 ):σ:=h
theorem qC{k1 k2:Int}{b:o6}{cap n' G:Nat}{A B:o3}(h:i8 w a n cap A)(h':i8 w b n' G B)(hbig:n<=1048576):
 Calls Tryz.prog 365 #[FB a n cap,Ge k1 k2,FB b n' G] w λe w'=>(∃v,e=atn (.tuple #[v,ato (Iw A (k1,k2) B).isSome])/\ZM w' w v ((Iw A (k1,k2) B).getD []))/\D4 w w':=by
 have HL:=I h.hlen;have M4:=I h'.hlen;have⟨y7,y8⟩:=h.ath;have⟨ZI,Zt⟩:=h'.ath;refine Fn h h' (D4.alloc w (SH #[U k1,U k2] 80)) λHA HB' HX=>?_;by_cases K:n=n'
 ·subst K;have HS:=I (show Iw A (k1,k2) B=Nm (Ov A (k1,k2) B) n by unfold Iw;rw[HL.o,M4.o,i7 rfl]);have HO:=I (ZM.made (w.alloc (SH #[U k1,U k2] 80)) (w+1) j9);go_in
  go_wp2
  go_loopg [8,9] n (λgk o i wr=>∃(k:Nat) (a1:o6) (n1 p1:Nat) (r:o3),e9 (gk+k=n)/\i=U k/\o=FB a1 n1 p1/\e9 (Nm (Ov A (k1,k2) B) k=some r)/\e9 (ZM wr (w+1) (FB a1 n1 p1) r)/\e9 (D4 (w.alloc (SH #[U k1,U k2] 80)) wr))
  ·exact J5
  obtain⟨k,a1,n1,p1,r,HK,rfl,rfl,HR,HO1,A6⟩:=hrel;have Nd:=A6.size;rw[Mc]at Nd;by_cases hlt:k<n
  ·have SC:wr.cell? (IM w 0)=some (U k1):=A6.o9 j9;have SB:wr.cell? (IM w 1)=some (U k2):=A6.o9 j9;have⟨ab,Np,ax,ay,ha,UT,KI,KH⟩:=((HA.ext HX).ext A6).at hlt;have⟨bb,NU,bx,by',hb,Gu,PQ,PO⟩:=((HB'.ext HX).ext A6).at hlt;subst ha hb;have HAX:=I UT;have Ga:=I Gu;obtain⟨p,q,one,hm⟩:∃p q ok,cn (k1,k2) (bx,by')=((p,q),ok):=⟨_,_,_,rfl⟩;have HM:=I hm;obtain⟨p2,q2,two,Pa⟩:∃u v ok,F6 (ax,ay) (p,q)=((u,v),ok):=⟨_,_,_,rfl⟩;have IN:=I Pa;go_upto_region 7 with rfl
   go_cut [10,11] (λsx so wx=>∃g:Nat,sx=ats (some (IM g 0))/\so=ato one/\e9 (ai wr wx g p q))
   case first =>
    have qq0:=@yR;exact Wi
   obtain⟨g,rfl,rfl,FJ⟩:=hcut;have g0:=FJ.c0;have g1:=FJ.c1;replace KI:=FJ.ext.o9 KI;replace KH:=FJ.ext.o9 KH;go_upto_region 8 with rfl
   go_cut [12,13] (λsx so wx=>∃g2:Nat,sx=ats (some (IM g2 0))/\so=ato two/\e9 (ai wc wx g2 p2 q2))
   case first =>
    have qq0:=@jr;exact Qy
   obtain⟨g2,rfl,rfl,Z⟩:=hcut;have X2:=I ((A6.trans FJ.ext).trans Z.ext);have FM:=I ((HO1.ext FJ.ext).ext Z.ext);have h0:=Z.c0;have h1:=Z.c1;have HF:=I (show Ov A (k1,k2) B k=if(one&&two)=true then some (p2,q2) else none by unfold Ov;rw[HAX.o,Ga.o,HM.o];simp only;rw[IN.o];simp only[cM]);cases PS:(one&&two)
   ·have HN:e9 (Nm (Ov A (k1,k2) B) n=none):=fB HR.o (by rw[HF.o,PS];rfl) hlt;cases one
    case' true=>(have h2:two=false:=by simpa using PS);subst h2
    all_goals
     go_wp2_with rfl;have H:=X2.size;rw[Mc]at H;exact RV
   exact RD
  exact RZ
 have HN:=I (show Iw A (k1,k2) B=none by unfold Iw;rw[HL.o,M4.o,f8 K]);go_in
 go_wp2_with rfl;have HO:=I (ZM.made (w.alloc (SH #[U k1,U k2] 80)) w j9);go_ret2;exact⟨⟨_,gH V1,by rw[HN.o];simpa using HO.o⟩,HX.trans ZL⟩
theorem js{cap:Nat}{l:o3}(h:i8 w a n cap l)(hb:n<=1099511627776):
 Calls Tryz.prog 105 #[FB a n cap] w λe w'=>(∃v,e=atn v/\ZM w' w v l)/\D4 w w':=by
 have K:=I (h.ext (D4.alloc w (SH #[] 80)));have H:=I (ZM.made w w (m9 _));go_in
 go_wp2_with (at_builtin;refine cH rfl _ _ rfl w _ _ rfl H.o _ n _ l rfl K.o T4 j9 ?_;intro v' w1 ho hg r');go_ret;exact⟨⟨_,rfl,by simpa using ho⟩,aj ZL hg (λk G=>sw (iv (show some w.heap.size=some k from G)))⟩
theorem CP{k1 k2:Int}{cap:Nat}{A:o3}(h:i8 w a n cap A)(hbig:n<=1048576):
 Calls Tryz.prog 384 #[FB a n cap,Ge k1 k2] w λe w'=>(∃v,e=atn (.tuple #[v,ato (Lq A (k1,k2)).isSome])/\ZM w' w v ((Lq A (k1,k2)).getD []))/\D4 w w':=by
 have HL:=I h.hlen;have⟨y7,y8⟩:=h.ath;refine Op h (D4.alloc w (SH #[U k1,U k2] 80)) (show Lq A (k1,k2)=Nm (PY A (k1,k2)) n by unfold Lq;rw[h.hlen]) (ZM.made (w.alloc (SH #[U k1,U k2] 80)) (w+1) j9) λHA HX HS HO=>?_;go_in
 go_wp2
 go_loopg [6,7] n (λgk o i wr=>∃(k:Nat) (K:o6) (H G:Nat) (r:o3),e9 (gk+k=n)/\i=U k/\o=FB K H G/\e9 (Nm (PY A (k1,k2)) k=some r)/\e9 (ZM wr (w+1) (FB K H G) r)/\e9 (D4 (w.alloc (SH #[U k1,U k2] 80)) wr))
 ·exact J5
 obtain⟨k,K,H,G,r,HK,rfl,rfl,HR,HO1,A6⟩:=hrel;have Nd:=A6.size;rw[Mc]at Nd;by_cases hlt:k<n
 ·have SC:wr.cell? (IM w 0)=some (U k1):=A6.o9 j9;have SB:wr.cell? (IM w 1)=some (U k2):=A6.o9 j9;have⟨ab,Np,ax,ay,ha,UT,KI,KH⟩:=((HA.ext HX).ext A6).at hlt;subst ha;have Z:=I UT;obtain⟨p,q,one,hm⟩:∃p q ok,Hu (ax,ay) (k1,k2)=((p,q),ok):=⟨_,_,_,rfl⟩;have HM:=I hm;go_upto_region 5 with rfl
  go_cut [8,9] (λsx so wx=>∃g:Nat,sx=ats (some (IM g 0))/\so=ato one/\e9 (ai wr wx g p q))
  case first =>
   have r7:=D4.drew wr;have Fu:D4 wr (wr.alloc (SH #[U 0,U 0] 80)).drew:=ZL.trans fl;have r8:=I (λ(w':J) (h:D4 wr w')=>(an (h.o9 SC) (an (h.o9 SB) (an (h.o9 KI) (an (h.o9 KH) h)))))
   go_region_held3 (λw'=>w'.cell? (IM w 0)=some (U k1)/\w'.cell? (IM w 1)=some (U k2)/\w'.cell? (IM ab (Np+k*2))=some (U ax)/\w'.cell? (IM ab (Np+k*2+1))=some (U ay)/\D4 wr w')
    (exact yg)
    (first
      | ((with_reducible refine(yN ax ay k1 k2 _).mono ?_)
         rw[HM.o];rintro e w3 ⟨rfl,D3⟩
         try with_reducible first|have A7:=ai.grow A7 D3|have A7:=ai.Fk D3|have A7:=ai.Fq r7 D3
         try(have Ko:=A7.c0;have Kn:=A7.c1;have L4:=A7.free)
         have r7:D4 wr w3:=TP;have G7:=r7.size))
   all_goals(exact yx)
  obtain⟨g,rfl,rfl,FJ⟩:=hcut;have g0:=FJ.c0;have g1:=FJ.c1;refine Fn (A6.trans FJ.ext) (HO1.ext FJ.ext) (show PY A (k1,k2) k=if one=true then some (p,q) else none by unfold PY;rw[Z.o,HM.o]) λX2 FM HF=>?_;have QK:=X2.size;rw[Mc]at QK;cases one
  ·have HN:e9 (Nm (PY A (k1,k2)) n=none):=fB HR.o oj hlt;go_wp2_with rfl;exact RV
  have Ky:=I (eg (x:=(p,q)) HR.o oj);have GS:=I (cZ HR)
  go_wp2_with (first
   | (at_builtin;refine Qt p q FM X2 WI λa2 n2 c2 w4 Jb X5 Gh=>?_))
  refine dk ?_;exact⟨k+1,a2,n2,c2,_,I (l8 HK.o),by go_num,rfl,Ky,Gh,X5⟩
 exact RZ
section
variable{w:J}{ra:o6}{rn rc:Nat}{ba:o6}{bn bc:Nat}{t:Tb}{n m:Nat}{T0:Nat->Nat->Rat}
structure Nz(w:J)(ra:o6)(rn rc:Nat)(ba:o6)(bn bc:Nat)(t:Tb)(n m:Nat):Prop where
 tb:QW w ra m rc ba m bc t
 rn:rn=m
 bn:bn=m
 A':t.A'=n
theorem Gy.sizes(h:Gy n m T0 t)(hc:QW w ra rn rc ba bn bc t):rn=m/\bn=m:=⟨by rw[<-hc.rows.hlen];exact h.len,by rw[<-hc.basis.hlen];exact h.KN⟩
def VX(h:σ:=by
 rw[PN,In da];exact HT.bas _ (cP _)
 ):σ:=h
theorem nV(h:QW w ra m rc ba m bc t)(hT:Gy n m T0 t)(hn:n<=1000)(hm:m<=1000):
 f9 344 #[Qk ra m rc ba m bc (n:Int)] w (ato true):=by
 have B9:=D4.alloc w (dh ra m rc ba m bc (n:Int));refine Fn B9 (h.ext B9) (ah w (dh ra m rc ba m bc (n:Int)) _ rfl) λB4 H Z=>?_;have⟨h1,h2⟩:=h.rows.ath;have⟨h3,h4⟩:=h.basis.ath;have HT:=I hT;have QN:¬(n:Int)<0:=O;have Ht:¬(n:Int) > 1000:=O;have QO:((m:Int) != (m:Int))=false:=j9
 (try unfold f9);go_in
 go_wp2
 go_loopg [4] m (λgk ii wr=>∃k:Nat,e9 (gk+k=m)/\ii=U k/\e9 (D4 (w.alloc (dh ra m rc ba m bc (n:Int))) wr))
 ·exact⟨0,I O,rfl,I So⟩
 obtain⟨k,HK,rfl,HX⟩:=hrel;have⟨p0,p1,p2⟩:=mc (HX.blk Z);by_cases hlt:k<m
 ·have⟨zb,Gd,ya,yn,yc,Lf,Hl,A4⟩:=(H.ext HX).rows.at hlt;subst Lf;have Nb:yn=n+m+1:=by rw[<-A4.hlen];exact(HT.row k hlt).1
  have⟨F7,Mz⟩:=A4.ath;have⟨eb,D6,Kl,GI⟩:=(H.ext HX).basis.at hlt;subst Kl;have⟨bk,PN⟩:=j7 (t.basis[k]?.getD 0);rw[<-PN]at GI;have Pg:0<=bk/\bk<n+m:=by
   exact VX
  have Jj:=I (λw'=>bj bk 0 ((n:Int)+(m:Int)-1) w');rw[show A8 bk 0 ((n:Int)+(m:Int)-1)=true by unfold A8;simp;omega]at Jj;have Jl:=dc ((n:Int)+(m:Int));have hw2:=dc ((n:Int)+(m:Int)+1);have Gn:=dc ((n:Int)+(m:Int)-1);have Rt:((yn:Int) != (n:Int)+(m:Int)+1)=false:=t8;have MI:=aE k;have Ij:=SW k m;clear PN;go_upto_region 7 with rfl;have G:=D4.drew wr;have r8:=I λw' (h:D4 wr w')=>TX (h.o9 p0) (TX (h.o9 p1) (TX (h.o9 p2) (TX (h.o9 Hl) (TX (h.o9 GI) h))));refine kp r8 G λr9=>?_
  refine ta ⟨?_⟩;refine C2 ⟨?_⟩;refine rd 23 λK hK=>?_;go_simp
  (go_at_call 90;refine(Jj _).mono ?_;rintro e w3 ⟨rfl,rfl⟩)
  go_wp2_with rfl;refine KO (r8 _ G) λr9=>?_;refine tk 24 ?_;refine tk 25 ?_;refine ST k8 ?_ _;have C7:=I (HX.trans G);go_wp2_with rfl;refine dk ?_;exact⟨k+1,I (l8 HK.o),by go_num,C7⟩
 have JS:m=k:=l8 HK.o;subst JS;go_wp2;go_ret;exact⟨rfl,B4.trans HX.o⟩
end
