import Derived.Test.YtooiaklfmodcbaaGreatDoorRtAllG24
set_option linter.all false
set_option maxHeartbeats 6000000
set_option maxRecDepth 100000
namespace Go.Proofs.YtooiaklfmodcbaaGreatDoor
open Ending renaming returned->ar
open List renaming length->JL
open Obj renaming cells->QD
open Value renaming slice->GI,bool->bl,string->aE,pointer->aP
open Go.Proofs.Tryz Go.RowKit
variable{σ:Prop}
section
def Rv{P Q:Prop}(k:p9 Q)(h:p9 Q->P:=by intro k;refine lp 0 ?_;refine ll 1 ?_;refine lp 2 ?_;refine ll 3 ?_;refine lp 4 ?_;refine lp 5 ?_;refine ll 6 ?_;exact k.1):P:=h k
def WN(h:σ:=by first|with_reducible exact o7.trans FQ|with_reducible exact D0.trans FQ|with_reducible exact(o7.trans (C7.alloc _ _)).trans FQ):σ:=h
def Qt(h:σ:=by first|with_reducible exact o7.trans ER|with_reducible exact D0.trans ER|with_reducible exact(o7.trans (C7.alloc _ _)).trans ER):σ:=h
def YP(h:σ:=by rw[HT.Ji];exact F0):σ:=h
def VD(h:σ:=by rw[<-Gf.o];omega):σ:=h
def K0(h:σ:=by rw[MZ.o];omega):σ:=h
def Zl{P Q:Prop}(q:Q)(h:Q->P:=by intro q;go_roundg (gk-1);exact q;have:=LN.o;omega):P:=h q
variable{cost:l7}
theorem qD(x y:Int)(w:J):f8 245 #[EF x y] w (U (DM (x,y) (0,1))):=by
 have qq0:=@cL;have qq1:=@eK;exact tj
theorem qz{w:J}{ra:l9}{rn rc:Nat}{ba:l9}{bn bc:Nat}{x:Int}{a:l9}{n cap:Nat}{costs:l7}(h:i6 w a n cap costs)(m:Nat)(hm:m<=n):
 f8 299 #[Oe ra rn rc ba bn bc x,GI a n cap,U m] w (U (bQ costs m)):=by
 have E:=C7.alloc w (de ra rn rc ba bn bc x);have Ha:=I E;have H:=I (h.ext E);have⟨Eu,GU⟩:=h.aq9;have HL:=I h.hlen;clear h E;have hle:(m:Int)<=(n:Int):=j0;have qq0:=@qD;exact S6
section
variable{w:J}{ra:l9}{rc:Nat}{ba:l9}{bc:Nat}{t:Tb}{n m:Nat}{T0:Nat->Nat->Rat}
theorem xK(h:OT w ra m rc ba m bc t)(hT:EY n m T0 t)(hn:n<=1000)(hm:m<=1000){c:Nat}(hc:c<n):
 f8 300 #[Oe ra m rc ba m bc (n:Int),U c] w (U (dL t (c:Int))):=by
 have B8:=C7.alloc w (de ra m rc ba m bc (n:Int));have Ha:=I B8;have H:=I (h.ext B8);have G:=I (ai w (de ra m rc ba m bc (n:Int)) _ rfl);have⟨Eh,FZ⟩:=h.rows.aq9;have⟨E6,Ew⟩:=h.basis.aq9;have HT:=I hT;have HR:=I (show dL t (c:Int)=(cU t c m).1 by
  unfold dL;rw[f9 (by rw[hT.ok hn,hT.A6,hT.len];simp[A4];omega),hT.len,gg])
 have HG:=I (mP H.o hT hn hm);have⟨u,hu⟩:=e9 (n+m);refine t8 (show u=t.A6.toNat+JL t.rows by rw[hT.A6,hT.len,gg];exact hu) hu (λw'=>bj (c:Int) 0 ((n:Int)+(m:Int)-1) w') λHU HUM Hl=>?_;rw[show A4 (c:Int) 0 ((n:Int)+(m:Int)-1)=true by unfold A4;simp;omega]at Hl;have Hn:=dk ((n:Int)+(m:Int));have E8:=dk ((n:Int)+(m:Int)-1);clear h hT B8 hu;unfold f8;go_in
 go_upto_region 1 with fail;have⟨W,hW⟩:=e9 (w.alloc (de ra m rc ba m bc (n:Int)));rw[<-hW]at Ha H G HG;rw[<-hW];clear hW;have⟨p0,p1,p2⟩:=gl G.o;go_wp2_with fail;refine i7 HG λw1 aa=>?_;clear p0 p1 p2;have p0:=aw (aa.blk G);have p2:=aJ (aa.blk G);have Ko:=I (ah.new (C7.refl w1) 0 0);go_wp2_with (go_at_call 32;refine(Hl _).mono ?_;rintro e w2 ⟨rfl,rfl⟩);clear E8
 go_loopg [5,7] m (λgk bst ii wr=>∃(k:Nat) (st l1 l2:Int),b9 (gk+k=m)/\ii=U k/\bst=U st/\b9 (cU t c k=(st,(l1,l2)))/\b9 (ah w1 wr w1 l1 l2))
 ·exact⟨0,-1,0,0,I j0,rfl,rfl,I rfl,Ko⟩
 obtain⟨k,st,l1,l2,HK,rfl,rfl,HL,HB⟩:=hrel;have X1:=I (aa.trans HB.ext);clear p0 p2;have p0:=aw (X1.blk G);by_cases Z:k<m
 ·have⟨zb,ED,za,zn,zc,JA,F8,z8⟩:=(H.ext X1).rows.at Z;subst JA;have Te:zn=u+1:=by rw[<-z8.hlen,HUM.o];exact(HT.row k Z).1
  have HZN:=I Te;have⟨LU,hrm⟩:=z8.aq9;have Hy:=I z8;have hcz:c<zn:=k8 HUM.o;have⟨yb,Et,p,q,KY,D4,JC,EN⟩:=z8.at hcz;subst KY;have EJ:b9 (t.at k c=(p,q)):=D4;have hczI:=Rd c zn;clear D4 z8 Te;have⟨E,hE⟩:=e9 (wr.alloc (QD #[U p,U q] 56));have⟨gp,hgp⟩:=e9 wr.heap.size;have Gg:C7 wr E:=by rw[hE];exact WU
  have PY:=I (show ah wr E gp p q by rw[hE,hgp];exact ah.new WF _ _);have Uo:=I (HB.grow Gg);go_upto_region 9 with fail;rw[<-hE,<-hgp];clear hE hgp Gg p0 F8 JC EN;have XE:=I (aa.trans Uo.ext);have p0:=aw (XE.blk G);have p2:=aJ (XE.blk G);have⟨zb',Up,za',zn',zc',NA,F8,Qu⟩:=(H.ext XE).rows.at Z;obtain⟨rfl,rfl⟩:=aM NA;clear NA;have hzn':zn'=u+1:=by rw[<-Qu.hlen,HUM.o];exact(HT.row k Z).1
  have HZN':=I hzn';have⟨ub,Zw,p',q',hua,Wq,KH,JD⟩:=Qu.at (show u<zn' by omega);subst hua;have⟨hrc',hrm'⟩:=Qu.aq9;have HQQ:b9 (t.at k u=(p',q')):=Wq;have e0:=PY.c0;have e1:=PY.c1;obtain⟨d1,d2,MU,hdd⟩:∃x y ok,F1 (p',q') (p,q)=((x,y),ok):=⟨_,_,_,rfl⟩;have Km:=I hdd;have YK:IntKind.i64.wrap ((n:Int)+(m:Int))=(u:Int):=by have:=HUM.o;rw[mn];omega
  have KZ:=ST u;have Kr:(u:Int)<(zn':Int):=j0;have KN:=ST k;have Gj:=Rd k m;clear Wq hdd Qu hzn' Hn;go_upto_region 9 with fail
  go_cut [9,10] (λsx so wx=>∃g:Nat,sx=aP (some (O g 0))/\so=bl MU/\b9 (ah E wx g d1 d2))
  case first =>
   have o7:=C7.drew E;have D0:C7 E (E.alloc (QD #[U 0,U 0] 56)).drew:=WU.trans cn;have o8:=I (λ(w':J) (h:C7 E w')=>(an (h.o6 p0) (an (h.o6 p2) (an (h.o6 F8) (an (h.o6 KH) (an (h.o6 JD) (an (h.o6 e0) (an (h.o6 e1) h))))))))
   go_region_held3 (λw'=>w'.cell? (O w 0)=some (GI (some (O zb ED)) m rc)/\w'.cell? (O w 2)=some (U n)/\w'.cell? (O zb (ED+k))=some (GI (some (O ub Zw)) zn' zc')/\w'.cell? (O ub (Zw+u*2))=some (U p')/\w'.cell? (O ub (Zw+u*2+1))=some (U q')/\w'.cell? (O gp 0)=some (U p)/\w'.cell? (O gp 1)=some (U q)/\C7 E w')
    (exact Hz)
    (first
      | ((with_reducible refine(xF p' q' p q _).mono ?_)
         rw[Km.o];rintro e w5 ⟨rfl,B0⟩
         first|(with_reducible have A1:=ah.grow A1 B0)|(with_reducible have A1:=ah.DS B0)|(with_reducible have A1:=ah.DX o7 B0)|skip
         first|(have IX:=A1.c0;have IW:=A1.c1;have Kf:=A1.free)|skip
         have o7:C7 E w5:=XG;have FB:=o7.size))
   all_goals(exact Jm)
  obtain⟨g,rfl,rfl,Ee⟩:=hcut;clear YK KZ Kr p0 p2 F8 KH JD e0 e1;have Nt:=I (Uo.grow Ee.ext);have HBPC:=I (PY.grow Ee.ext);have e0:=HBPC.c0;have e1:=HBPC.c1;have HS:=I (qD p q wc);have⟨sg,K8⟩:=GT (DM (p,q) (0,1));rw[<-K8.o]at HS;by_cases Ks:sg<=0
  ·have F4:=I (show cU t c (k+1)=(st,(l1,l2))by
    show eH _ c (cU _ c k) k=_;rw[HL.o];exact wT EJ.o (by rw[<-K8.o];exact Ks))
   go_wp2_with fail;refine IR HS λw3 hx=>?_;have En:=I (Nt.grow hx);exact OO
  have Qd:=I Ks;cases MU
  ·have F4:=I (show cU t c (k+1)=(st,(l1,l2))by
    show eH _ c (cU _ c k) k=_;rw[HL.o];exact wU HU.o EJ.o HQQ.o Yy (by rw[Km.o]))
   go_wp2_with fail;refine IR HS λw3 hx=>?_;have En:=I (Nt.grow hx);exact OO
  go_wp2_with fail;refine i7 HS λw3 hx=>?_;have En:=I (Nt.grow hx);have HD3:=I (Ee.grow hx);have g0:=HD3.c0;have g1':=HD3.c1;have b0:=En.c0;have b1:=En.c1;have H6:=I (eK d1 d2 l1 l2 w3);have⟨cc,Oc⟩:=GT (DM (d1,d2) (l1,l2));rw[<-Oc.o]at H6;clear e0 e1;go_wp2_with fail;refine i7 H6 λw6 hx=>?_;have I':=I (En.grow hx);have HG6:=I (HD3.grow hx);clear g0 g1' b0 b1;have X6:=I (aa.trans I'.ext);have c1:=aI (X6.blk G);have⟨eb,DI,IU,Fg⟩:=(H.ext X6).basis.at Z;subst IU;have⟨bi,O'⟩:=GT (t.basis[k]?.getD 0);rw[<-O'.o]at Fg;have H7:=I (ld t c k);have HUP:=I (λK (FD:t.basis[st.toNat]?.getD 0=K)=>show cU t c (k+1)=if J2 st cc bi K=true then((k:Int),(d1,d2)) else(st,(l1,l2))by
   show eH _ c (cU _ c k) k=_;rw[HL.o,Oc.o];exact wV HU.o EJ.o HQQ.o Yy Km.o O'.symm FD)
  go_upto_region 12 with fail
  go_cut [93] (λs82 wx=>∃K:Int,s82=bl (J2 st cc bi K)/\b9 (t.basis[st.toNat]?.getD 0=K)/\b9 (C7 w6 wx))
  case first =>
   have o7:=C7.drew w6;by_cases hst:st<0
   ·have Nh:decide (st<0)=true:=UV hst;refine nE (S:=(λw'=>w'.cell? (O w 1)=some (GI (some (O eb DI)) m bc)/\w'.cell? (O eb (DI+k))=some (U bi)/\C7 w6 w')) j8 ?_ (λo9=>?_)
    ·exact⟨o7.o6 c1,o7.o6 Fg,o7⟩
    refine vA ⟨?_⟩;refine LA ⟨?_⟩;refine Pi j8 ?_ _;go_wp2;go_meet;exact⟨_,by unfold J2;rw[Nh];rfl,I rfl,I o7⟩
   have Nh:decide (st<0)=false:=Ok j0;obtain⟨sn,rfl⟩:∃sn:Nat,st=sn:=⟨st.toNat,by omega⟩;have YO:sn<m:=by have:=H7.o;rw[HL.o]at this;simp only at this;omega
   have⟨fb,NQ,hfa,Pk⟩:=(H.ext X6).basis.at YO;obtain⟨rfl,rfl⟩:=aM hfa;clear hfa;have⟨K,FD⟩:=e9 (t.basis[sn]?.getD 0);have Gf:=I (show t.basis[Int.toNat (sn:Int)]?.getD 0=K by rw[gg,FD]);rw[<-FD]at Pk;have hs0':=ST sn;have hs1':=Rd sn m;clear FD;by_cases hcc:cc<0
   ·have PH:decide (cc<0)=true:=UV hcc;refine nE (S:=(λw'=>w'.cell? (O w 1)=some (GI (some (O eb DI)) m bc)/\w'.cell? (O eb (DI+k))=some (U bi)/\C7 w6 w')) j8 ?_ (λo9=>?_)
    ·exact⟨o7.o6 c1,o7.o6 Fg,o7⟩
    refine vA ⟨?_⟩;refine LA ⟨?_⟩;refine Pi j8 ?_ _;go_wp2;go_meet;exact⟨K,by unfold J2;rw[Nh,PH];rfl,Gf,I o7⟩
   have PH:decide (cc<0)=false:=Ok j0;by_cases D1:cc=0
   ·subst D1;refine nE (S:=(λw'=>w'.cell? (O w 1)=some (GI (some (O eb DI)) m bc)/\w'.cell? (O eb (DI+k))=some (U bi)/\w'.cell? (O eb (DI+sn))=some (U K)/\C7 w6 w')) j8 ?_ (λo9=>?_)
    ·exact⟨o7.o6 c1,o7.o6 Fg,o7.o6 Pk,o7⟩
    refine vA ⟨?_⟩;refine LA ⟨?_⟩;refine Pi j8 ?_ _;go_wp2;go_meet;exact⟨K,by unfold J2;rw[Nh];rfl,Gf,I o7⟩
   have WL:(cc == 0)=false:=m9;refine nE (S:=(λw'=>w'.cell? (O w 1)=some (GI (some (O eb DI)) m bc)/\w'.cell? (O eb (DI+k))=some (U bi)/\C7 w6 w')) j8 ?_ (λo9=>?_)
   ·exact⟨o7.o6 c1,o7.o6 Fg,o7⟩
   refine vA ⟨?_⟩;refine LA ⟨?_⟩;refine Pi j8 ?_ _;go_wp2;go_meet;exact⟨K,by unfold J2;rw[Nh,PH,Ok D1];rfl,Gf,I o7⟩
  obtain⟨K,rfl,Gf,R4⟩:=hcut;refine t8 (I'.grow R4) (HG6.grow R4) (HUP K Gf) λFI Si Y7=>?_;clear c1 Fg;cases V8:J2 st cc bi K
  ·have F4:=I (show cU t c (k+1)=(st,(l1,l2))by rw[Y7.o,V8];rfl);exact ss
  have F4:=I (show cU t c (k+1)=((k:Int),(d1,d2))by rw[Y7.o,V8];rfl);have g0:=Si.c0;have g1':=Si.c1;have b0:=FI.c0;have b1:=FI.c1;have bf:=FI.free;have OC:=I (FI.put d1 d2);exact Ov
 have DV:m=k:=k8 HK.o;subst DV;have HF:=I (show dL t (c:Int)=st by rw[HR.o,HL.o]);have qq0:=@au;exact gd
end
section
variable{w:J}{ra:l9}{rc:Nat}{ba:l9}{bc:Nat}{t:Tb}{n m:Nat}{T0:Nat->Nat->Rat}
theorem Xx{t:Tb}{cost r:l7}{k:Nat}(h:dT t cost k=some r):dT t cost (k+1)=Gu r (C5 (cost[(t.basis[k]?.getD 0).toNat]?.getD (0,0))) (t.row k):=by
 simp only[dT];rw[h];rfl
def P9(h:σ:=by
 go_wp2;go_ret2;exact⟨⟨_,gm cF,by rw[HN.o];exact WV.made _ _ (k8 A8.size)⟩,A8.trans (HX.trans WU)⟩
 ):σ:=h
theorem Dk(h:OT w ra m rc ba m bc t)(hT:EY n m T0 t)(hn:n<=1000)(hm:m<=1000){ka:l9}{kn kc:Nat}{cost:l7}(hk:i6 w ka kn kc cost)(Fe:kn=n+m)(hv:FM cost=true):
 Calls prog 298 #[Oe ra m rc ba m bc (n:Int),GI ka kn kc] w λe w'=>(∃v,e=ar (.tuple #[v,bl (dC t cost).isSome])/\WV w' w v ((dC t cost).getD []))/\C7 w w':=by
 have B8:=C7.alloc w (de ra m rc ba m bc (n:Int));have A8:=I B8;have H:=I (h.ext B8);have E:=I (ai w (de ra m rc ba m bc (n:Int)) _ rfl);have Jp:=I (hk.ext B8);have⟨Eh,FZ⟩:=h.rows.aq9;have⟨E6,Ew⟩:=h.basis.aq9;have⟨Gj,Z⟩:=hk.aq9;have HT:=I hT;have S2:=I hk.hlen;have FP:=I Fe;have HE:=I (show dC t cost=dT t cost m by
  unfold dC qS;rw[f9 (by rw[hT.ok hn,hT.A6,hT.len,hk.hlen,hv,Fe];simp),hT.len])
 have HVL:=I (λj (hj:j<kn)=>show z7 (cost[j]?.getD (0,0))=true by
  have:j<JL cost:=by rw[hk.hlen];exact hj
  rw[Id this];exact(gy.1 hv) _ (eN this))
 have HG:=I (mP H.o hT hn hm);have Pt:=I hv;have Ti:(kn:Int)=(n:Int)+(m:Int):=j0;have Hn:=wq ((n:Int)+(m:Int)) (kn:Int);have Qx:((kn:Int) != (kn:Int))=false:=j7;have QJ:=I Ti;clear h hT B8 hk Fe hv Ti;go_in
 go_upto_region 1 with fail;have⟨W,hW⟩:=e9 (w.alloc (de ra m rc ba m bc (n:Int)));rw[<-hW]at A8 H E HG Jp;rw[<-hW];clear hW;have⟨p0,p1,p2⟩:=gl E.o;go_wp2_with fail;refine i7 HG λw1 X1=>?_;clear p0 p1 p2;have p0:=aw (X1.blk E);have p2:=aJ (X1.blk E);have O8:=I (ja (Jp.ext X1) (k8 FP.o));go_wp2_with fail;refine PP O8 λw2 v2 Gs hx=>?_;obtain⟨a2,n2,c2,rfl,Hb⟩:=Gs.var;have X2:=I (X1.trans hx);have Ec:=I Gs;have IK:=X1.size;have Wm:=hx.size;clear Gs p0 p2 Hn;go_wp2_with fail;refine i7 (cL 0 _) λw3 hx=>?_;have X3:=I (X2.trans hx);have B9:=I (Ec.ext hx);have J8:=hx.size
 go_wp2_with (first
  | (at_builtin;refine cG rfl _ _ rfl w1 (GI a2 n2 c2) _ rfl (B9.ext WU) _ 1 _ [(0,1)] rfl (C2 j7) (by rw[S2.o];have:=FP.o;omega) m9 ?_;intro v5 w5 ho hg r7;have X5:=I (aj (X3.trans WU) hg (λj hj=>fy IK (B9.lt j hj).1));obtain⟨a5,n5,p5,rfl,It⟩:=ho.var;have DT:=I ho;clear ho hg r7))
 have HAL:=I (jT (Jp.ext X5));rw[Pt.o]at HAL;refine i7 HAL λw6 hx=>?_;have X6:=I (X5.trans hx);have EP:=I (DT.ext hx);go_wp2
 go_loopg [6,7,8] m (λgk oo fl ii wr=>∃(k:Nat) (f:Bool) (a1:l9) (n1 p1:Nat) (r:l7),b9 (gk+k=m)/\ii=U k/\oo=GI a1 n1 p1/\fl=bl f/\b9 (dT t cost k=if f=true then some r else none)/\b9 (WV wr W (GI a1 n1 p1) r)/\b9 (C7 W wr))
 ·exact⟨0,true,_,_,_,_,I j0,rfl,rfl,rfl,I rfl,I (EP.mono IK),X6⟩
 obtain⟨k,f,a1,n1,q1,r,HK,rfl,rfl,rfl,HC,HO,HX⟩:=hrel;have hsr:=HX.size;have p0:=aw (HX.blk E);by_cases hlt:k<m
 ·cases f
  ·have HN:=I (show dC t cost=none by rw[HE.o];exact qQ HC.o j0);exact P9
  have Qh:b9 (dT t cost k=some r):=HC;have p1:=aI (HX.blk E);have⟨zb,ED,ya,yn,yc,JA,F8,z8⟩:=(H.ext HX).rows.at hlt;subst JA;have⟨eb,DI,IU,Fg⟩:=(H.ext HX).basis.at hlt;subst IU;obtain⟨b,hb⟩:∃b:Nat,t.basis[k]?.getD 0=b:=by
   have:=HT.bas _ (eN (l:=t.basis) (n:=k) Yl);exact⟨(t.basis[k]?.getD 0).toNat,by rw[Id Yl];simp;omega⟩
  have NK:b<kn:=by
   have h1:=HT.bas _ (eN (l:=t.basis) (n:=k) Yl);rw[Id Yl,Nm]at hb;rw[hb]at h1;have:=FP.o;omega
  rw[hb]at Fg;have⟨cb,Lt,c1,c2',hca,hcc,D1,Eu⟩:=(Jp.ext HX).at NK;subst hca;have I5:=aU (HVL b NK);rw[hcc]at I5;have hw2:IntKind.i64.wrap (-c1)=-c1:=by rw[mn];simp only at I5;omega
  have HCG:=I (show dT t cost (k+1)=Gu r (-c1,c2') (t.row k)by rw[Xx Qh.o,hb,gg,hcc];rfl);have HCL:=I (nJ Qh);have FT:n1<=1048576:=by have h1:=HO.rats.hlen;rw[HCL.o,S2.o]at h1;have:=FP.o;omega
  have Za:=I (λ(wz:J) (hz:C7 wr wz)=>pI (k1:=-c1) (k2:=c2') (HO.ext hz).rats (show i6 wz ya yn yc (t.row k)from z8.ext hz) FT);have⟨sv,Mo⟩:=e9 (Gu r (-c1,c2') (t.row k));have Ff:=I (show dT t cost (k+1)=sv by rw[HCG.o,Mo]);simp only[<-Mo]at Za;have KN:=ST k;have hk1':=Rd k m;have RW:=ST b;have RV:=Rd b kn;clear z8 I5 hcc Mo hb;go_upto_region 8 with fail;have adC:=C7.drew wr;have Z:=adC;clear adC;have o8:=I λw' (h:C7 wr w')=>TX (h.o6 p0) (TX (h.o6 p1) (TX (h.o6 F8) (TX (h.o6 Fg) (TX (h.o6 D1) (TX (h.o6 Eu) h)))));refine mc o8 Z λo9=>?_
  refine vA ⟨?_⟩;refine LA ⟨?_⟩;refine Wj ⟨?_⟩;refine rd 26 λK hK=>?_;go_simp
  (go_at_call 323;refine TS (Za _ Z) λw3 v3 EV B5=>?_;have TZ:=Z.size;have Z:=Z.trans B5;obtain⟨a3,n3,c3,rfl,LK⟩:=EV.var)
  go_wp2_with fail;refine KO (o8 _ Z) λo9=>?_;refine tk 27 ?_;refine tk 28 ?_;refine tk 29 ?_;refine tk 30 ?_;refine tk 31 ?_;refine Pi j8 ?_ _;have C0:=I (HX.trans Z);have EI:=I (EV.mono (fy hsr TZ));clear Z EV p0 p1 F8 Fg D1 Eu hw2;go_wp2_with fail;refine er ?_;exact⟨k+1,sv.isSome,a3,n3,c3,sv.getD [],I (k8 HK.o),by go_num,rfl,rfl,I (by rw[Ff.o];cases sv<;>rfl),EI,C0⟩
 have Iq:m=k:=k8 HK.o;subst Iq;cases f
 ·have HN:=I (show dC t cost=none by rw[HE.o];exact HC);exact P9
 have HN:=I (show dC t cost=some r by rw[HE.o];exact HC);go_wp2;go_ret2;exact⟨⟨_,gm cF,by rw[HN.o];exact HO.mono (k8 A8.size)⟩,A8.trans HX.o⟩
def SD(h:σ:=by
 exact⟨0,_,_,_,I j0,rfl,rfl,aeN,X1⟩
 ):σ:=h
def NQ(h:σ:=by
 subst Ln;go_wp2;go_ret;exact⟨⟨_,rfl,by rw[HSO.o];exact EI.mono j0⟩,A8.trans Gm.o⟩
 ):σ:=h
theorem xN(h:OT w ra m rc ba m bc t)(Z:EY n m T0 t)(hn:n<=1000)(hm:m<=1000):
 Calls prog 248 #[Oe ra m rc ba m bc (n:Int)] w λe w'=>(∃v,e=ar v/\WV w' w v (Ga t))/\C7 w w':=by
 have B8:=C7.alloc w (de ra m rc ba m bc (n:Int));refine t8 B8 (h.ext B8) (ai w (de ra m rc ba m bc (n:Int)) _ rfl) λA8 H E=>?_;have⟨W,hW⟩:=e9 (w.alloc (de ra m rc ba m bc (n:Int)));have Mn:W.heap.size=w.heap.size+1:=by rw[hW];simp
 have IH:=I Mn;have⟨Eh,FZ⟩:=h.rows.aq9;have⟨E6,Ew⟩:=h.basis.aq9;refine z6 Z (show Ga t=GM t m by unfold Ga;rw[f9 (Z.ok hn),Z.len]) (show GM t 0=List.replicate (n+m) (0,1)by simp only[GM];rw[Z.A6,Z.len];rfl) (λk=>show(GM t k).length=n+m by rw[kD,Z.A6,Z.len];simp) (WV.made W (w+1) j0) (C7.alloc W (QD #[] 56)) λHT HSO Qd F5 HO X0=>?_;rw[<-hW]at A8 H E;rw[Mn]at HO;have HG:=I (mP (H.ext X0) Z hn hm);have Hn:=dk ((n:Int)+(m:Int));clear h Z B8 Mn;go_in
 go_upto_region 1 with fail;rw[<-hW];clear hW;have Mn:=IH.o;have⟨p0,p1,p2⟩:=gl (X0.blk E);go_wp2_with fail;refine i7 HG λw1 hx=>?_;have X1:=I (X0.trans hx);have aeN:=I (HO.ext hx);clear p0 p1 p2;go_wp2
 go_loopg [3,4] (n+m) (λgk oo ii wr=>∃(k:Nat) (a1:l9) (K p1:Nat),b9 (gk+k=n+m)/\ii=U k/\oo=GI a1 K p1/\b9 (WV wr (w+1) (GI a1 K p1) (List.replicate k (0,1)))/\b9 (C7 W wr))
 ·exact SD
 rename Nat=>g1;rename J=>y9;obtain⟨k,a1,K,q1,HK,rfl,rfl,HO1,HX⟩:=hrel;have p0:=aw (HX.blk E);have p2:=aJ (HX.blk E);have hsz:=HX.size;by_cases hlt:k<n+m
 ·have EW:=I (show(List.replicate k ((0:Int),(1:Int))).length=k by simp);have aao:(k:Int)<(n:Int)+(m:Int):=by omega
  go_wp2_with fail;refine i7 (cL 0 _) λw3 hx=>?_;have X3:=I (HX.trans hx);have B9:=I (HO1.ext hx);have J8:=X3.size;clear p0 p2
  go_wp2_with (first
   | (at_builtin;refine Ot 0 1 B9 X3 N5 λa5 n5 p5 w5 It X5 DT=>?_))
  refine kf ?_;exact⟨k+1,a5,n5,p5,I (k8 HK.o),by go_num,rfl,I X9,X5⟩
 have Iq:k=n+m:=k8 HK.o;have aao:¬(k:Int)<(n:Int)+(m:Int):=j0;have HKM:=I Iq;have Ec:=I (show WV y9 (w+1) (GI a1 K q1) (GM t 0)by rw[Qd.o,<-Iq];exact HO1);clear Iq;go_wp2_with fail;clear p2 aao
 go_loopg [5] m (λgk ii wr=>∃(k:Nat),b9 (gk+k=m)/\ii=U k/\b9 (WV wr (w+1) (GI a1 K q1) (GM t k))/\b9 (C7 W wr))
 ·exact YJ
 obtain⟨j,HJ,rfl,EI,Gm⟩:=hrel;clear p0;have p0:=aw (Gm.blk E);by_cases F0:j<m
 ·have p1:=aI (Gm.blk E);have p2:=aJ (Gm.blk E);have⟨zb,ED,ya,yn,yc,JA,F8,z8⟩:=(H.ext Gm).rows.at F0;subst JA;have⟨u,hu⟩:=e9 (n+m);have Lj:yn=u+1:=by rw[<-z8.hlen,hu];exact(HT.row j F0).1
  have Y4:=I Lj;have⟨EN,KG⟩:=z8.aq9;have hub:u<=200000:=j0;have⟨yb,Et,p,q,KY,D4,Qq,Qp⟩:=z8.at (show u<yn by omega);subst KY;have EJ:b9 (t.at j u=(p,q)):=D4;obtain⟨b,hb⟩:∃b:Nat,t.basis[j]?.getD 0=b:=by
   have:=HT.bas _ (eN (l:=t.basis) (n:=j) YP);exact⟨(t.basis[j]?.getD 0).toNat,by rw[Id YP];simp;omega⟩
  have PJ:b<n+m:=by
   have h1:=HT.bas _ (eN (l:=t.basis) (n:=j) YP);rw[Id YP,Nm]at hb;rw[hb]at h1;omega
  have HB:=I hb;have⟨eb,DI,IU,Fg⟩:=(H.ext Gm).basis.at F0;subst IU;rw[hb]at Fg;have FT:K=u:=by have:=EI.rats.hlen;rw[F5.o]at this;omega
  subst FT;have⟨G,hG,MQ,P8,Tv⟩:=EI.block (k:=b) j0;subst hG;have⟨G',SK,g1v,g2v,Ij,Jd,Ms,K2⟩:=EI.rats.at (show b<K by omega);obtain⟨rfl,rfl⟩:=aM Ij;clear Ij;rw[hI]at Ms K2;have YK:=wq ((n:Int)+(m:Int)) (K:Int);have Kr:(K:Int)<(yn:Int):=k8 Y4.o;have KZ:=ST K;have RW:=ST b;have RV:=Rd b K;have hj0:=ST j;have hj1:=Rd j m;have HU:=I hu;clear D4 z8 Lj hb Jd hu Hn;go_upto_region 11 with fail
  go_still_tail 20,j8
  have DT:=I (show WV ((wr.drew.setCell (O G (b*2)) (U p)).setCell (O G (b*2+1)) (U q)) (w+1) (EQ G K q1) (GM t (j+1))by
   have h1:=(EI.ext (C7.drew wr)).set (k:=b) (by rw[F5.o,<-HU.o];omega) p q;have h2:GM t (j+1)=(GM t j).set b (p,q):=by
    simp only[GM];rw[HB.o,gg,HT.A6,HT.len,gg,<-HU.o,EJ.o]
   rw[h2];exact h1)
  have hGW:W.heap.size<=G:=k8 IH.o;have FV:=I (((Gm.trans (C7.drew wr)).setCell (p:=(O G (b*2))) hGW (U p)).setCell (p:=(O G (b*2+1))) hGW (U q));clear YK;exact RJ
 have Ln:m=j:=k8 HJ.o;exact NQ
end
section
variable{w:J}{a:l9}{na ca:Nat}{b:l9}{nb cb:Nat}{c:l9}{nc cc:Nat}{A:l8}{B:o3}{C:l7}
theorem tK(h:Kh w a na ca b nb cb c nc cc A B C)(ok:Ej A B C=true):
 Calls prog 178 #[Ig a na ca b nb cb c nc cc] w λe w'=>(∃va vb vs,e=ar (.agg #[va,vb,U nc])/\Fp w' w va vb vs (cz A B nc))/\C7 w w':=by
 have⟨r1,r2,r3,r4,r5,r6⟩:=dI h ok;subst r3;have B8:=(C7.alloc w (bT a nb ca b nb cb c nc cc)).trans (C7.alloc _ (QD #[d6,d6,U 0] 151));have⟨W,hW⟩:=e9 ((w.alloc (bT a nb ca b nb cb c nc cc)).alloc (QD #[d6,d6,U 0] 151));rw[<-hW]at B8;have A8:=I B8;have H:=I (h.ext B8);have HV:=I (eV H);rw[ok]at HV;refine t8 (show W.heap[w.heap.size+1]?=some (QD #[d6,d6,U 0] 151 (0,0))by rw[hW];exact IO j7) (show W.heap[w.heap.size]?=some (QD #[GI a nb ca,GI b nb cb,GI c nc cc] 105 (0,0))by rw[hW,aZ _ _ _ j7];exact IO rfl) (show W.heap.size=w.heap.size+1+1 by rw[hW];simp) λEB Z IH=>?_;have⟨T',ON⟩:=h.a.aq9;have⟨E6,Ew⟩:=h.b.aq9;have⟨Eu,GU⟩:=h.c.aq9;refine ns h.a.hlen h.b.hlen r4 r5 r6 λHc FN IL JR Po=>?_;clear h B8 ok r4 r5 r6;go_in
 go_upto_region 1 with fail;rw[<-hW];clear hW;have⟨G,p1,p2⟩:=gl Z.o;go_wp2_with fail;refine i7 HV λw1 X1=>?_;have H1:=I (H.ext X1);clear G p1 p2;refine t8 (aw (X1.blk Z)) (aI (X1.blk Z)) (aJ (X1.blk Z)) λP0 P1 P2=>?_;have p2:=P2.o;have IK:w.heap.size+1+1<=w1.heap.size:=by have:=X1.size;have:=IH.o;omega
 have⟨E,hE⟩:=e9 (w1.alloc (QD #[d6,d6,U nc] 151));have XE:=I (show C7 w1 E by rw[hE];exact WU)
 have R7:=I (show JN E w1 w1 d6 (d6) (nc:Int) [] [] []by
  rw[hE];exact⟨IO rfl,i8 _,WD _ _ _ 1,ev.nil _ _,C1⟩)
 go_upto_region 4 with fail;rw[<-hE];clear hE p2;have G:=XE.o6 P0.o;go_wp2
 go_loopg [4] nb (λgk ii wr=>∃(k:Nat) (va vb:arQ) (vs:List arQ),b9 (gk+k=nb)/\ii=U k/\b9 (JN wr w1 w1 va vb (nc:Int) vs ((List.range k).map (dF A B)) ((List.range k).map λi=>((nc+i:Nat):Int)))/\b9 (C7 w1 wr))
 ·exact⟨0,_,_,_,I j0,rfl,R7,XE⟩
 rename Nat=>g1;rename J=>y9;obtain⟨k,va,vb,vs,HK,rfl,T,HX⟩:=hrel;clear G;have G:=HX.o6 P0.o;have hsr:=HX.size;by_cases hlt:k<nb
 ·have⟨zb,ED,ya,yn,yc,JA,F8,z8⟩:=(H1.ext HX).a.at hlt;subst JA;obtain rfl:yn=nc:=by rw[<-z8.hlen];exact IL.o k hlt
  have⟨EN,KG⟩:=z8.aq9;have⟨eb,DI,IU,Fg⟩:=H1.b.at hlt;subst IU;have⟨bk,NK⟩:=e9 (B[k]?.getD 0);rw[<-NK]at Fg;refine t8 Fg F8 NK λPX Jm HBK=>?_;have FD:-5000<=bk/\bk<=5000:=by
   rw[NK,Id (by rw[FN.o];exact hlt)];exact Po.o _ (eN _)
  obtain⟨hbb0,hbb1⟩:=FD;have⟨sd,Q5⟩:=e9 (GS bk);have HSD:=I Q5;have Wk:(bk<0/\sd=-1)∨(¬bk<0/\sd=1):=by rw[Q5];exact ia bk
  have Jc:-1<=sd/\sd<=1:=j0;obtain⟨hsb0,Wl⟩:=Jc;have p1:=HX.o6 P1.o;have Kc:=HX.o6 PX.o;have Hy:=I z8;clear z8 NK Q5 Fg;go_upto_if 29 with fail
  go_cut [5] (λs6 wx=>s6=U sd/\y9=wx)
  case first =>
   exact Nt
  obtain⟨rfl,rfl⟩:=hcut;clear Wk;have HO1:=I (WV.made y9 y9 (i8 _));go_wp2
  go_loopg [6,7] yn (λgk oo ii wr=>∃(j:Nat) (a1:l9) (n1 q1:Nat),b9 (gk+j=yn)/\ii=U j/\oo=GI a1 n1 q1/\b9 (WV wr y9 (GI a1 n1 q1) (((A[k]?.getD []).take j).map λx=>(sd*x,(1:Int))))/\b9 (C7 y9 wr))
  ·exact O0
  rename Nat=>g2;rename J=>wr2;obtain⟨j,a1,n1,q1,HJ,rfl,rfl,aa,A0⟩:=hrel;clear G p1 Kc F8;have p2:=(HX.trans A0).o6 P2.o;by_cases F0:j<yn
  ·have G:=(HX.trans A0).o6 P0.o;have F8:=A0.o6 Jm.o;have qq0:=@cL;exact Rh
  have Ii:yn=j:=k8 HJ.o;have Fh:=I (show WV wr2 y9 (GI a1 n1 q1) ((A[k]?.getD []).map (λx=>(sd*x,(1:Int))))by
   have h1:=aa.o;rw[bR (by rw[IL.o k hlt];omega)]at h1;exact h1)
  have Lz:=I (show((A[k]?.getD []).map (λx=>(sd*x,(1:Int)))).length=yn by rw[dc];exact IL.o k hlt);have G:=(HX.trans A0).o6 P0.o;have S4:=I Ii;clear Ii;go_wp2
  go_loopg [6,8] nb (λgk oo ii wr=>∃(i:Nat) (a1:l9) (n1 q1:Nat),b9 (gk+i=nb)/\ii=U i/\oo=GI a1 n1 q1/\b9 (WV wr y9 (GI a1 n1 q1) ((A[k]?.getD []).map (λx=>(sd*x,(1:Int)))++(List.range i).map λi=>if i=k then((1:Int),(1:Int)) else(0,1)))/\b9 (C7 y9 wr))
  ·exact PY
  obtain⟨i,a3,n3,q3,HI,rfl,rfl,B9,B7⟩:=hrel;clear G p2;have G:=(HX.trans B7).o6 P0.o;by_cases Jr:i<nb
  ·have EW:=I (show((A[k]?.getD []).map (λx=>(sd*x,(1:Int)))++(List.range i).map λi=>if i=k then((1:Int),(1:Int)) else(0,1)).length=yn+i by rw[SW,Lz.o];simp);obtain⟨un,LB⟩:∃u:Int,u=if i=k then 1 else 0:=⟨_,rfl⟩
   have F9:=I (show(List.range i).map (λi=>if i=k then((1:Int),(1:Int)) else(0,1))++[(un,1)]=(List.range (i+1)).map λi=>if i=k then((1:Int),(1:Int)) else(0,1)by
    rw[<-dm,LB];congr 2;split<;>rfl)
   have Ng:((i:Int) == (k:Int))=decide (i=k):=by by_cases h:i=k<;>simp[h]<;>omega
   have HUN:=I (show D3 (decide (i=k))=un by rw[LB];by_cases h:i=k<;>simp[h,D3]);have Od:=I (λw'=>fH (decide (i=k)) w');rw[HUN.o]at Od;clear LB;go_wp2_with (go_at_call 170;refine(Od _).mono ?_;rintro e w2 ⟨rfl,rfl⟩);clear Ng;refine i7 (cL un _) λw3 hx=>?_;have X3:=I (B7.trans hx);have EI:=I (B9.ext hx);have J8:=X3.size
   go_wp2_with (first
    | (at_builtin;refine Ot un 1 EI X3 N5 λa5 n5 p5 w5 It X5 DT=>?_))
   refine Z5 ?_;exact⟨i+1,a5,n5,p5,I (k8 HI.o),by go_num,rfl,I Tm,X5⟩
  have D7:i=nb:=k8 HI.o;subst D7;have⟨z2,J6⟩:=e9 (sd*bk);have Ol:sd*bk=bk∨sd*bk=-bk∨sd*bk=0:=by
   exact WS
  have YL:IntKind.i64.wrap (sd*bk)=z2:=by
   rw[mn,J6];rcases Ol with h1|h1|h1<;>rw[h1]<;>omega
  have JQ:=I (show((A[k]?.getD []).map (λx=>(sd*x,(1:Int)))++(List.range i).map λi=>if i=k then((1:Int),(1:Int)) else(0,1))++[(z2,1)]=dF A B k by
   unfold dF;rw[<-HBK.o,<-HSD.o,J6,Hc.o,yu])
  have EW:=I (show((A[k]?.getD []).map (λx=>(sd*x,(1:Int)))++(List.range i).map λi=>if i=k then((1:Int),(1:Int)) else(0,1)).length=yn+i by rw[SW,Lz.o];simp);have HVL:=I (show JL vs=k by rw[T.rows.len];simp);have t0:=aw T.box;have p1:=HX.o6 P1.o;have Kc:=HX.o6 PX.o;have KN:=ST k;have Gj:=Rd k i;clear J6 Ol;go_upto_region 19 with fail;have JH:=C7.drew wr;have o7:C7 y9 wr.drew:=B7.trans JH;have o8:=I λw' (h:C7 y9 w')=>TX (h.o6 t0) (TX (h.o6 p1) (TX (h.o6 Kc) (HX.trans h)));refine cD (M:=[16]) (S:=λw'=>w'.cell? (O w1 0)=some va/\w'.cell? (O w 1)=some (GI (some (O eb DI)) i cb)/\w'.cell? (O eb (DI+k))=some (U bk)/\C7 w1 w') j8 ?_;have o9:=o8.o _ o7;refine oj ⟨?_⟩;refine lp 4 ?_;refine ll 5 ?_;refine lp 6 ?_;refine lp 7 ?_;refine ll 8 ?_;refine lp 9 ?_;refine Gp 10 λK hK=>?_
  go_simp;go_at_call 97;refine IR (cL _ _) λw5 Ey=>?_;have JH:C7 wr w5:=JH.trans Ey;have o7:C7 y9 w5:=o7.trans Ey;have KJ:=o7.size;go_wp2_with fail;refine KL (o8 _ o7) λo9=>?_
  refine Gp 11 λK hK=>?_;go_simp;refine hK.out _ _ (λ_=>o8.o _ (o7.trans WU)) ?_;clear hK K
  try simp only[Act.put,sA,sB,sC]
  refine Gp 12 λK hK=>?_;refine dq _ _ j9 y9 (GI a3 n3 q3) _ j9 ((B9.ext JH).ext WU) _ 1 _ [(z2,1)] j9 (C2 rfl) N5 m9 ?_;intro v6 w6 ho hg r7;obtain⟨a6,n6,q6,rfl,Ia⟩:=ho.var;have EP:=I ho;have JV:C7 y9 w6:=aj (o7.trans WU) hg (λj hj=>(B9.lt j hj).1);have hs6:=JV.size;clear ho hg r7;refine KL (o8 _ JV) λo9=>?_;refine Gp 13 λK hK=>?_;go_simp;refine hK.out _ _ (λ_=>o8.o _ (JV.trans WU)) ?_;clear hK K
  try simp only[Act.put,sA,sB,sC]
  refine Gp 14 λK hK=>?_;refine fT _ _ j9 w1 va vs j9 ((T.a.ext JV).ext WU) _ _ 1 j9 N3 rfl ds m9 ?_;intro v7 w7 ho hg r7;obtain⟨a7,n7,q7,rfl,My⟩:=ho.var;have II:=I ho;have Si:=I hg;have EX:=T.OR (JV.trans WU) hg;have Re:=aw EX;have YX:=dZ EX;have Nl:C7 w1 w7:=aj ((HX.trans JV).trans WU) hg (λj hj=>(T.a.lt j hj).1);clear ho hg r7 EX;refine KL (hJ Re (hJ (Nl.o6 P1) (hJ (Nl.o6 PX) Nl))) λo9=>?_;refine lp 15 ?_;refine OJ 16 ?_;refine cQ j8 ?_ _;have N4:=I (T.Lf (JV.trans WU) (EP.ext WU) hsr Si.o II);have Ma:=I (Nl.setCell (p:=(O w1 0)) (i8 _) (GI a7 n7 q7));have⟨W8,NO⟩:=e9 (w7.setCell (O w1 0) (GI a7 n7 q7));rw[<-NO]at N4 Ma;go_upto_region 20 with fail;rw[<-NO];clear NO Re YX o9;have b1:=aI N4.box;have p2:=C7.o6 Ma.o P2.o;exact Fu
 have qq0:=@results178;exact YS
end
section
variable{w:J}{ra:l9}{rc:Nat}{ba:l9}{bc:Nat}{t:Tb}{n m:Nat}{T0:Nat->Nat->Rat}
theorem UW(h:OT w ra m rc ba m bc t)(hm:m<=1000)(IC:t.A6=n)(J9:∀i,i<m->JL (t.row i)<=1048576):
 Calls prog 339 #[Oe ra m rc ba m bc (n:Int)] w λe w'=>(∃va vb vs,e=ar (.agg #[va,vb,U n])/\Fp w' w va vb vs t)/\C7 w w':=by
 have B8:=(C7.alloc w (de ra m rc ba m bc (n:Int))).trans (C7.alloc _ (QD #[d6,d6,U 0] 151));have⟨W,hW⟩:=e9 ((w.alloc (de ra m rc ba m bc (n:Int))).alloc (QD #[d6,d6,U 0] 151));rw[<-hW]at B8;have A8:=I B8;have H:=I (h.ext B8);have Eh:=h.rows.r8;have FZ:=h.rows.r9;refine af (show JL t.rows=m from h.rows.hlen) (show JL t.basis=m from h.basis.hlen) IC J9 (show W.heap[w.heap.size]?=some (QD #[GI ra m rc,GI ba m bc,U n] 151 (0,0))by rw[hW,aZ _ _ _ j7];exact IO rfl) (show W.heap[w.heap.size+1]?=some (QD #[d6,d6,U 0] 151 (0,0))by rw[hW];exact IO j7) (show W.heap.size=w.heap.size+1+1 by rw[hW];simp) λFt FN H6 Fq HTB EB IH=>?_;have p1:=aI HTB.o;have p2:=aJ HTB.o;clear h B8 J9 IC;go_in
 go_upto_region 1 with fail;rw[<-hW];clear hW
 go_cut [3] (λs wx=>∃(g:Nat) (a3:l9) (n3 c3:Nat),s=aP (some (O g 0))/\b9 (JN wx W g d6 (GI a3 n3 c3) (n:Int) [] [] t.basis)/\b9 (C7 W wx))
 case first =>
  have o7:=C7.drew W;have o8:=I (λ(w':J) (h:C7 W w')=>(⟨h.o6 p1,h.o6 p2,h⟩:(λw'=>w'.cell? (O w 1)=some (GI ba m bc)/\w'.cell? (O w 2)=some (U n)/\C7 W w') w'));refine mc o8 o7 λo9=>?_;refine tk 1 ?_;refine tk 2 ?_;refine tk 4 ?_;refine tk 5 ?_;refine YT (rs:=[0,7]) j8 j7 ?_;refine Rg (λK hK=>?_) ?_
  ·
   have o7:C7 W (W.alloc (QD #[] 3)).drew:=WU.trans cn;have Sc:=I ((r'.D2 W W W rfl (i8 _)).ext cn);go_simp;refine KO (o8 _ o7) λo9=>?_;have⟨gi,Z⟩:=e9 W.heap.size;have⟨W1,Mw⟩:=e9 ((W.alloc (QD #[] 3)).drew);rw[<-Mw]at o7 Sc;rw[show(EQ W 0 0)=EQ gi 0 0 by rw[Z]]at Sc;rw[<-Mw,<-Z];clear Mw Z o9;refine YT (rs:=[3,7]) j8 j7 ?_;refine Rg (λK hK=>?_) ?_
   ·
    refine bU _ j9 ?_;refine aO _ _ j9 W (EQ gi 0 0) [] j9 Sc.o ba m bc t.basis j9 (H.ext o7).basis m9 o7.size ?_;intro v3 w3 EV LY LD;obtain⟨a3,n3,c3,rfl,LK⟩:=EV.var;have B9:=I (show r' w3 W (GI a3 n3 c3) t.basis by simpa using EV);have B5:=C7.grown o7 LY (λj hj=>(Sc.lt j hj).1);go_wp2_with fail;refine KO (o8 _ B5) λo9=>?_;have o7:=B5;refine tk 6 ?_;have WD:=o7.size;have o7:=o7.trans (C7.alloc w3 (QD #[d6,d6,U 0] 151));have G:b9 ((w3.alloc (QD #[d6,d6,U 0] 151)).heap[w3.heap.size]?=some (QD #[d6,d6,U 0] 151 (0,0))):=vC w3 _;refine rd 7 λK hK=>?_;go_simp;refine KO (o8 _ o7) λo9=>?_;have⟨gt,Lo⟩:=e9 w3.heap.size;have⟨W9,ID⟩:=e9 (w3.alloc (QD #[d6,d6,U 0] 151));have HK9:=I (show C7 w3 W9 by rw[ID];exact WU);rw[<-ID]at o7;rw[<-ID,<-Lo]at G;rw[<-ID,<-Lo];have LW:W.heap.size<=gt:=by rw[Lo];exact WD
    clear ID Lo o9 WD;have B9:=I (B9.ext HK9);have IX:=aw G.o;have IW:=aI G.o;have b2_:=aJ G.o;have bf_:=dZ G.o;refine rd 8 λK hK=>?_;go_simp;refine hK.out _ _ ?_ (λo9=>?_)
    ·exact o8.o _ (C7.IM o7 LW _ _ _)
    clear hK K
    try simp only[Act.put,sA,sB,sC]
    refine Pi j8 ?_ _;go_wp2;go_meet;exact⟨gt,a3,n3,c3,rfl,I (JN.ZN G.o B9.o (i8 _) LW),I (C7.IM o7 LW _ _ _)⟩
   refine Rg (λK hK=>?_) WW;have WD:=o7.size;have o7:=o7.trans (C7.alloc W1 (QD #[d6,d6,U 0] 151));have G:b9 ((W1.alloc (QD #[d6,d6,U 0] 151)).heap[W1.heap.size]?=some (QD #[d6,d6,U 0] 151 (0,0))):=vC W1 _;go_simp;refine KO (o8 _ o7) λo9=>?_;have⟨gt,Lo⟩:=e9 W1.heap.size;have⟨W9,ID⟩:=e9 (W1.alloc (QD #[d6,d6,U 0] 151));have HK9:=I (show C7 W1 W9 by rw[ID];exact WU);rw[<-ID]at o7;rw[<-ID,<-Lo]at G;rw[<-ID,<-Lo];have LW:W.heap.size<=gt:=by rw[Lo];exact WD
   clear ID Lo o9 WD;have Sc:=I (Sc.ext HK9);refine rd 3 λK hK=>?_;refine bU _ j9 ?_;refine aO _ _ j9 W (EQ gi 0 0) [] j9 Sc.o ba m bc t.basis j9 (H.ext o7).basis m9 o7.size ?_;intro v3 w3 EV LY LD;obtain⟨a3,n3,c3,rfl,LK⟩:=EV.var;have B9:=I (show r' w3 W (GI a3 n3 c3) t.basis by simpa using EV);have B5:=C7.grown o7 LY (λj hj=>(Sc.lt j hj).1);have G:=I ((LY.block gt (In G) (aq Sc.o G.o Fd)).trans G);go_wp2_with fail;refine KO (o8 _ B5) λo9=>?_;have o7:=B5;refine tk 6 ?_;have IX:=aw G.o;have IW:=aI G.o;have b2_:=aJ G.o;have bf_:=dZ G.o;refine rd 8 λK hK=>?_;go_simp;refine hK.out _ _ ?_ (λo9=>?_)
   ·exact o8.o _ (C7.IM o7 LW _ _ _)
   clear hK K
   try simp only[Act.put,sA,sB,sC]
   refine Pi j8 ?_ _;go_wp2;go_meet;exact⟨gt,a3,n3,c3,rfl,I (JN.ZN G.o B9.o (i8 _) LW),I (C7.IM o7 LW _ _ _)⟩
  refine Rg (λK hK=>?_) WW;have o7:C7 W (W.alloc (QD #[d6,d6,U 0] 151)).drew:=WU.trans cn;have G:b9 ((W.alloc (QD #[d6,d6,U 0] 151)).drew.heap[W.heap.size]?=some (QD #[d6,d6,U 0] 151 (0,0))):=vC W _;go_simp;refine KO (o8 _ o7) λo9=>?_;have⟨gt,Lo⟩:=e9 W.heap.size;have⟨W1,Mw⟩:=e9 ((W.alloc (QD #[d6,d6,U 0] 151)).drew);rw[<-Mw]at o7;rw[<-Mw,<-Lo]at G;rw[<-Mw,<-Lo];have LW:W.heap.size<=gt:=wZ Lo.symm;clear Mw Lo o9;have Sc:=I (r'.D2 W1 W W1 rfl o7.size);have o7:=o7.trans (C7.alloc W1 (QD #[] 3));refine rd 0 λK hK=>?_;go_simp;refine KO (o8 _ o7) λo9=>?_;have⟨gi,Z⟩:=e9 W1.heap.size;have⟨W2,hW2⟩:=e9 (W1.alloc (QD #[] 3));rw[<-hW2]at o7 Sc;rw[show(EQ W1 0 0)=EQ gi 0 0 by rw[Z]]at Sc;have G:=I (show W2.heap[gt]?=some (QD #[d6,d6,U 0] 151 (0,0))by rw[hW2];exact(C7.alloc W1 (QD #[] 3)).blk G);rw[<-hW2,<-Z];clear hW2 Z o9;refine rd 3 λK hK=>?_;refine bU _ j9 ?_;refine aO _ _ j9 W (EQ gi 0 0) [] j9 Sc.o ba m bc t.basis j9 (H.ext o7).basis m9 o7.size ?_;intro v3 w3 EV LY LD;obtain⟨a3,n3,c3,rfl,LK⟩:=EV.var;have B9:=I (show r' w3 W (GI a3 n3 c3) t.basis by simpa using EV);have B5:=C7.grown o7 LY (λj hj=>(Sc.lt j hj).1);have G:=I ((LY.block gt (In G) (aq Sc.o G.o Fd)).trans G);go_wp2_with fail;refine KO (o8 _ B5) λo9=>?_;have o7:=B5;refine tk 6 ?_;have IX:=aw G.o;have IW:=aI G.o;have b2_:=aJ G.o;have bf_:=dZ G.o;refine rd 8 λK hK=>?_;go_simp;refine hK.out _ _ ?_ (λo9=>?_)
  ·exact o8.o _ (C7.IM o7 LW _ _ _)
  clear hK K
  try simp only[Act.put,sA,sB,sC]
  refine Pi j8 ?_ _;go_wp2;go_meet;exact⟨gt,a3,n3,c3,rfl,I (JN.ZN G.o B9.o (i8 _) LW),I (C7.IM o7 LW _ _ _)⟩
 obtain⟨g,a3,n3,c3,rfl,Nr,Qc⟩:=hcut;clear p1 p2;go_wp2
 go_loopg [4] m (λgk ii wr=>∃(k:Nat) (va:arQ) (vs:List arQ),b9 (gk+k=m)/\ii=U k/\b9 (JN wr W g va (GI a3 n3 c3) (n:Int) vs (t.rows.take k) t.basis)/\b9 (C7 W wr))
 ·exact JS
 obtain⟨k,va,vs,HK,rfl,T,HX⟩:=hrel;have p0:=aw (HX.blk HTB);by_cases hlt:k<m
 ·have⟨zb,ED,za,zn,zc,JA,F8,z8⟩:=(H.ext HX).rows.at hlt;subst JA;have Te:zn<=1048576:=by rw[<-z8.hlen];exact Fq.o k hlt
  have Hy:=I z8;have t0:=aw T.box;have JK:=T.lt;have hsx:=HX.size;have HVL:=I (show JL vs=k by rw[T.rows.len,k6];have h2:=Ft.o;omega);have KN:=ST k;have Gj:=Rd k m;have P0:=I p0;have⟨zb',Up,za',zn',zc',NA,VY,ag4⟩:=H.rows.at hlt;simp only[bq,H4,E5]at NA;obtain⟨rfl,rfl⟩:=NA;have hzz:=F8.symm.trans (HX.o6 VY);simp only[bq,nP]at hzz;obtain⟨rfl,rfl,rfl⟩:=hzz;have Hzz:=I (λ(w':J) (hx:C7 W w')=>hx.o6 VY);clear ag4 VY;clear z8;go_upto_region 5 with fail;have JH:=C7.drew wr;have o8:=I λw' (h:C7 wr w')=>TX (h.o6 t0) (TX (h.o6 p0) (TX (h.o6 F8) (HX.trans h)));refine cD (M:=[11]) (S:=λw'=>w'.cell? (O g 0)=some va/\w'.cell? (O w 0)=some (GI (some (O zb ED)) m rc)/\w'.cell? (O zb (ED+k))=some (GI za zn zc)/\C7 W w') j8 ?_;have o9:=o8.o _ JH;refine Rv ⟨?_⟩;refine Gp 7 λK hK=>?_
  go_simp;go_at_call 47;refine TS (ja (Hy.ext JH) j0) λw5 v5 Mq Ey=>?_;have JP:=I JH.size;have JH:C7 wr w5:=JH.trans Ey;obtain⟨a5,n5,c5,rfl,It⟩:=Mq.var;have DT:b9 (WV w5 wr (GI a5 n5 c5) _):=Mq.mono JP;have KJ:=JH.size;clear Mq;go_wp2_with fail;refine KL (o8 _ JH) λo9=>?_
  refine Gp 8 λK hK=>?_;go_simp;refine hK.out _ _ (λ_=>o8.o _ (JH.trans WU)) ?_;clear hK K
  try simp only[Act.put,sA,sB,sC]
  refine Gp 9 λK hK=>?_;refine fT _ _ j9 W va vs j9 ((T.a.ext JH).ext WU) _ _ 1 j9 N3 rfl ds m9 ?_;intro v7 w7 ho hg r7;obtain⟨a7,n7,q7,rfl,My⟩:=ho.var;have II:=I ho;have Si:=I hg;have EX:=T.OR (JH.trans WU) hg;have Re:=aw EX;have YX:=dZ EX;have Nl:C7 W w7:=aj ((HX.trans JH).trans WU) hg (λj hj=>(T.a.lt j hj).1);have hZ7:b9 (w7.cell? (O zb (ED+k))=some (GI za zn zc)):=Hzz.o _ Nl;clear ho hg r7 EX;refine KL (hJ Re (hJ (C7.o6 Nl (aw HTB)) (hJ hZ7.out Nl))) λo9=>?_;refine lp 10 ?_;refine OJ 11 ?_;refine cQ j8 ?_ _;have Ri:=I (T.Lf (JH.trans WU) (DT.ext WU) hsx Si.o II);have Lw:=I (Nl.setCell (p:=(O g 0)) T.hg (GI a7 n7 q7));go_wp2_with fail;refine er ?_;exact⟨k+1,_,_,I (k8 HK.o),by go_num,I (by have:=Ri.o;rw[<-fw (by have h2:=Ft.o;omega)]at this;exact this),Lw⟩
 have DV:m=k:=k8 HK.o;subst DV;have Nn:b9 (t.rows.take m=t.rows):=bR (wZ Ft);have Ri:=I (show Fp wr W va (GI a3 n3 c3) vs t by
  have h1:=T.own;rw[Nn.o,<-H6.o]at h1;exact h1)
 have t0:=aw T.box;have t1:=aI T.box;have t2:=aJ T.box;obtain⟨a7,n7,c7,rfl,My⟩:=T.a.var;have q0:=HX.blk EB.o;have r0:=aw q0;have r1:=aI q0;have r2:=aJ q0;have rf:=dZ q0;have hww:=IH.o;have hsx:=HX.size;clear q0;go_wp2;refine Fn (v:=.agg #[GI a7 n7 c7,GI a3 n3 c3,U n]) (by simp[results,results339,go_sem,r0,r1,r2,rf]) rfl ⟨⟨_,_,vs,rfl,?_⟩,?_⟩
 ·exact(Ri.FJ λk hk=>dS _ _ _ _ _ _ j0).mono j0
 exact(A8.trans HX).IM (b7 _) _ _ _
end
end
section
variable{r N m:Nat}{w:J}{vs:List arQ}{t:Tb}{T0:Nat->Nat->Rat}
theorem Cb(a:o4)(q:Int):(F1 a (0,q)).2=false:=by
 unfold F1;split
 ·unfold aN;rw[f9 (xt j7)]
 rfl
section
variable{w:J}{ra:l9}{rc:Nat}{ba:l9}{bc:Nat}{t:Tb}{n m:Nat}{T0:Nat->Nat->Rat}
theorem EY.args(h:EY n m T0 t)(E:n<=1000){r c:Nat}(hr:r<m)(hc:c<n+m):fe t (r:Int) (c:Int)=true:=by
 unfold fe;rw[h.ok E,h.A6,h.len];unfold A4;simp;omega
theorem Bh(h:EY n m T0 t)(G:n<=1000){r c:Nat}(hr:r<m)(hc:c<n+m){q:Int}(E:t.at r c=(0,q)):bW t (r:Int) (c:Int)=none:=by
 rw[mG (h.args G hr hc)];refine mF ?_;unfold JM;rw[(h.row r hr).1];refine rU (k:=1) ?_ j0;simp only[LE,mr];unfold NS;rw[E,Cb];rfl
def O7(h:σ:=by
 have hww:=IH.o;clear hx I4 p0 p1 p2;go_wp2;refine Fn (v:=.tuple #[.agg #[GI a7 n7 c7,GI a8 n8 c8,U n],bl false]) (by simp[results,results325,go_sem,r0,r1,r2,rf]) rfl ⟨?_,(A8.trans X8).IM (b7 _) _ _ _⟩;refine⟨GI a7 n7 c7,GI a8 n8 c8,Zt,?_,?_⟩
 ·unfold ez;rw[HN.o,XK,H6.o];rfl
 ·unfold ez;rw[HN.o,XK];exact(Mc.FJ λk hk=>dS _ _ _ _ _ _ j0).mono j0
 ):σ:=h
theorem tJ(h:OT w ra m rc ba m bc t)(hT:EY n m T0 t)(hn:n<=1000)(hm:m<=1000){r c:Nat}(hr:r<m)(hc:c<n):
 Calls prog 325 #[Oe ra m rc ba m bc (n:Int),U r,U c] w λe w'=>Tx w' w e (ez t (r:Int) (c:Int)) (bW t (r:Int) (c:Int)).isSome/\C7 w w':=by
 have B8:=(C7.alloc w (de ra m rc ba m bc (n:Int))).trans (C7.alloc _ (QD #[d6,d6,U 0] 151));have⟨W,hW⟩:=e9 ((w.alloc (de ra m rc ba m bc (n:Int))).alloc (QD #[d6,d6,U 0] 151));rw[<-hW]at B8;have A8:=I B8;have H:=I (h.ext B8);have⟨Eh,FZ⟩:=h.rows.aq9;refine tc hT (show JL t.rows=m from hT.len) hT.A6 (show W.heap[w.heap.size]?=some (QD #[GI ra m rc,GI ba m bc,U n] 151 (0,0))by rw[hW,aZ _ _ _ j7];exact IO rfl) (show W.heap[w.heap.size+1]?=some (QD #[d6,d6,U 0] 151 (0,0))by rw[hW];exact IO j7) (show W.heap.size=w.heap.size+1+1 by rw[hW];simp) (mP H.o hT hn hm) (λ(w':J) (hx:C7 W w')=>UW (H.ext hx) hm hT.A6 (λi hi=>by rw[(hT.row i hi).1];omega)) (λw'=>bj (r:Int) 0 ((m:Int)-1) w') λHT Ft H6 Z EB IH HG HCL MA=>?_;rw[show A4 (r:Int) 0 ((m:Int)-1)=true by unfold A4;simp;omega]at MA;have Yy:=I (λw'=>bj (c:Int) 0 ((n:Int)+(m:Int)-1) w');rw[show A4 (c:Int) 0 ((n:Int)+(m:Int)-1)=true by unfold A4;simp;omega]at Yy;have Hn:=dk ((n:Int)+(m:Int));have E8:=dk ((n:Int)+(m:Int)-1);have FY:=dk ((m:Int)-1);have HYG:b9 (bW t (r:Int) (c:Int)=iH t r c):=mG (hT.args hn hr j0);have HZP:=I (λ(q:Int) (hp:t.at r c=(0,q))=>Bh hT hn hr (show c<n+m by omega) hp);have⟨u,hu⟩:=e9 (n+m+1);have Fq:=I (show∀i,i<m->JL (t.row i)=u by intro i hi;rw[hu];exact(hT.row i hi).1);have hcu:c<u:=j0;have hub:u<=2001:=j0;have hrr:=Rd r m;have Eb:=ST r;have D1:=ST c;have hcI:=Rd c u;have⟨zb,ED,za,zn,zc,JA,VY,z8⟩:=H.rows.at hr;subst JA;have Te:zn=u:=by rw[<-z8.hlen];exact Fq.o r hr
 subst Te;have⟨hrc1,hrc2⟩:=z8.aq9;have Hy:b9 (i6 W za zn zc (t.row r)):=z8;have HZW:=I VY;have⟨pb,Rv,pp,pq,hpa,KK,LV,MM⟩:=z8.at hcu;subst hpa;refine t8 LV MM (show t.at r c=(pp,pq)from KK) λI9 Jt M5=>?_;clear h hT B8 hu KK z8;go_in
 go_upto_region 1 with fail;rw[<-hW];clear hW;have⟨p0,p1,p2⟩:=gl Z.o;go_wp2_with fail;refine i7 HG λw1 X1=>?_;clear p0 p1 p2 VY LV MM;have⟨p0,p1,p2⟩:=gl (X1.blk Z);have F8:=X1.o6 HZW.o;have k0:=X1.o6 I9.o;by_cases hpz:pp=0
 ·have HN:b9 (bW t (r:Int) (c:Int)=none):=HZP.o pq (by rw[M5.o,hpz]);subst hpz;go_wp2_with fail;refine(MA _).mono ?_;rintro e w1' ⟨rfl,rfl⟩;go_wp2_with fail;refine(Yy _).mono ?_;rintro e w1' ⟨rfl,rfl⟩;go_wp2_with fail;refine(HCL _ X1).mono ?_;rintro e w8 ⟨⟨va8,vb8,Zt,rfl,I4⟩,hx⟩;have X8:=I (X1.trans hx);have Mc:=I I4;obtain⟨a7,n7,c7,rfl,My⟩:=I4.a.var;obtain⟨a8,n8,c8,rfl,M7⟩:=I4.b.var;have⟨r0,r1,r2⟩:=gl (X8.blk EB);have rf:=dZ (X8.blk EB);have hsz:=X1.size;exact O7
 have hppz:(pp == 0)=false:=by simpa using hpz
 clear hpz;go_wp2_with fail;refine(MA _).mono ?_;rintro e w1' ⟨rfl,rfl⟩;go_wp2_with fail;refine(Yy _).mono ?_;rintro e w1' ⟨rfl,rfl⟩;go_wp2_with fail;refine(HCL _ X1).mono ?_;rintro e w2 ⟨⟨va,vb,vs,rfl,ho⟩,hx⟩;have X2:=I (X1.trans hx);obtain⟨aa,na,ca,rfl,SY⟩:=ho.a.var;obtain⟨ab,nb,cb,rfl,TJ⟩:=ho.b.var;obtain rfl:m=na:=by have h1:=ho.rows.len;have h3:=Ft.o;have h4:=SY.o;omega
 obtain rfl:m=nb:=by have h1:=TJ.o;have h2:=HT.Ji;omega
 obtain⟨G,hG,_,_⟩:=ho.a.cell hr;subst hG;obtain⟨B,hB,_,_,_⟩:=ho.b.block hr;subst hB;have⟨E,hE⟩:=e9 (w2.alloc (QD #[EQ G m ca,EQ B m cb,U n] 151));have⟨gE,hgE⟩:=e9 w2.heap.size;have Gg:C7 w2 E:=by rw[hE];exact WU
 have adU:w1.heap.size<=gE:=by rw[hgE];exact hx.size
 have Uk:=I (show MX E w1 gE G m ca (EQ B m cb) (n:Int) vs t.rows t.basis from
  ⟨by rw[hE,hgE];exact IO rfl,adU,⟨ho.a.ext Gg,ho.rows.ext Gg⟩,ho.b.ext Gg⟩)
 have X1E:=I (hx.trans Gg);have XE:=I (X1.trans X1E);have Wi:w.heap.size+1+1<=w1.heap.size:=by have:=X1.size;have:=IH.o;omega
 clear ho p0 p1 p2 hx F8 k0;go_upto_region 4 with fail;rw[<-hE,<-hgE];clear hE hgE Gg;have p0:=aw (XE.blk Z);have F8:=XE.o6 HZW.o;have k0:=XE.o6 I9.o;have k1:=XE.o6 Jt.o;have TN:=I (Fq r hr);have⟨dv,JX⟩:=e9 (JM (t.row r) (pp,pq));have Mf:=I (show JM (t.row r) (t.at r c)=dv by rw[M5.o,JX]);have QS:=I (λ(w':J) (hx:C7 E w')=>BD (k1:=pp) (k2:=pq) (Hy.ext (XE.trans hx)) j0);simp only[<-JX]at QS;clear JX;have o7:=C7.drew E;have o8:=I λw' (h:C7 E w')=>TX (h.o6 p0) (TX (h.o6 F8) (TX (h.o6 k0) (TX (h.o6 k1) h)));refine mc o8 o7 λo9=>?_
 refine mq ⟨?_⟩;refine PV ⟨?_⟩;refine tk 7 ?_;refine tk 8 ?_;refine tk 9 ?_;refine tk 10 ?_;refine tk 11 ?_;refine tk 12 ?_;refine rd 13 λK hK=>?_;go_simp
 (go_at_call 340;refine TS (QS _ o7) λw5 v5 Mq Ey=>?_;have KJ:=o7.size;have o7:=o7.trans Ey;obtain⟨a5,n5,c5,rfl,It⟩:=Mq.var)
 go_wp2_with fail;refine KO (o8 _ o7) λo9=>?_;refine Xd ⟨?_⟩;refine tk 18 ?_;refine Pi j8 ?_ _;refine Op (XE.trans o7) (X1E.trans o7) o7 (Mq.mono KJ) λX5 X15 HE5 DT=>?_;clear o7 Mq p0 F8 k0 k1;cases dv with
 | none =>
   have HN:=I (show bW t (r:Int) (c:Int)=none by rw[HYG.o];exact mF Mf);have⟨p0,p1,p2⟩:=gl (X5.blk Z);go_wp2_with fail;refine(HCL _ X5).mono ?_;rintro e w8 ⟨⟨va8,vb8,Zt,rfl,I4⟩,hx⟩;have X8:=I (X5.trans hx);have Mc:=I I4;obtain⟨a7,n7,c7,rfl,My⟩:=I4.a.var;obtain⟨a8,n8,c8,rfl,M7⟩:=I4.b.var;have⟨r0,r1,r2⟩:=gl (X8.blk EB);have rf:=dZ (X8.blk EB);have hsz:=X5.size;exact O7
 | some mm =>
   have HPG:=I (show bW t (r:Int) (c:Int)=(Gb t r c mm m).map λrs=>⟨rs,t.basis.set r (c:Int),(n:Int)⟩by
    rw[HYG.o,pF Mf.o,Ft.o,H6.o])
   refine t8 (show WV w5 E (GI a5 n5 c5) mm from DT) (show JL mm=zn by have h1:=Mf.o;unfold JM at h1;rw[TN.o]at h1;exact cX h1) (Uk.ext HE5) λM6 Oa Jo=>?_;have c8:=Jo.c0;have⟨G',Ij,MQ,hGc⟩:=Jo.m.own.cell hr;obtain rfl:=AA Ij;clear Ij;have Q':w5.cell? (O G r)=some (vs[r]?.getD undef):=by
    rw[hGc r hr];have:r<JL vs:=by rw[Jo.m.GW];exact hr
    simp[this]
   obtain⟨G',Ij,_,_,P8⟩:=Jo.m.outer j0;obtain rfl:=AA Ij;clear Ij;have HE1s:b9 (w1.heap.size<=E.heap.size):=X1E.size;have Sd:=I (Uk.put HE5.o HE1s.o M6.o hr);have HOM6:=I (show WV (w5.setCell (O G r) (GI a5 n5 c5)) E (GI a5 n5 c5) mm from
    M6.keep λk hk=>GE _ _ _ _ λe=>aL Fd M6.o Jo.m.own k hk RO)
   have FU:=I (X15.setCell (p:=(O G r)) MQ (GI a5 n5 c5));clear hGc;go_upto_region 8 with fail;have⟨w6,GD⟩:=e9 (w5.setCell (O G r) (GI a5 n5 c5));rw[<-GD]at Sd HOM6 FU;rw[<-GD];clear GD c8 Q' P8 MQ;have p0:=aw ((X1.trans FU).blk Z);go_wp2
   go_loopg [11] m (λgk ii wr=>∃(k:Nat) (vs2:List arQ) (M:List (l7)),b9 (gk+k=m)/\ii=U k/\b9 (Gb t r c mm k=some M)/\b9 (MX wr w1 gE G m ca (EQ B m cb) (n:Int) vs2 M t.basis)/\b9 (WV wr E (GI a5 n5 c5) mm)/\b9 (C7 w1 wr))
   ·exact⟨0,_,_,I j0,rfl,I rfl,Sd,HOM6,FU⟩
   obtain⟨k,vs2,M,PU,rfl,La,Fh,Ec,C0⟩:=hrel;clear p0;have p0:=aw ((X1.trans C0).blk Z);have hsr2:=C0.size;by_cases Ez:k<m
   ·have⟨zb2,af',ya,yn,yc,VX,hzk,JE⟩:=(H.ext (X1.trans C0)).rows.at Ez;obtain⟨rfl,rfl⟩:=aM VX;clear VX;obtain rfl:zn=yn:=by rw[<-JE.hlen];exact(Fq k Ez).symm
    have Uj:b9 (i6 wr ya zn yc (t.row k)):=JE;have⟨yb,Et,p,q,KY,D4,JC,EN⟩:=Uj.at hcu;subst KY;have EJ:b9 (t.at k c=(p,q)):=D4;have⟨hyk1,hyk2⟩:=JE.aq9;have HZK:=I hzk;have Pd:IntKind.i64.wrap (-p)=-p:=by
     have h1:=(HT.bounds.2 k c).1;have h2:=(HT.bounds.2 k c).2;rw[EJ.o]at h1 h2;rw[mn];simp only at h1 h2;omega
    clear D4 JE;have Lx:=I (show decide (k=r∨t.at k c=(0,1))=(decide (k=r)||((p == 0)&&(q == 1)))by rw[EJ.o,yy];simp);have⟨E3,W4⟩:=e9 (wr.alloc (QD #[U p,U q] 56));have⟨gx,hgx⟩:=e9 wr.heap.size;have EC:=I (show ah wr E3 gx p q by rw[W4,hgx];exact ah.new WF _ _);go_upto_region 12 with fail;rw[<-W4,<-hgx];clear W4 hgx p0 JC EN hzk;have b0:=EC.c0;have b1:=EC.c1
    go_cut [103] (λacU wx=>acU=bl (decide (k=r∨t.at k c=(0,1)))/\b9 (C7 E3 wx))
    case first =>
     have o7:=C7.drew E3;by_cases hkr:k=r
     ·have heq:((k:Int) == (r:Int))=true:=by simp;omega
      have HE9:=I (show decide (k=r∨t.at k c=(0,1))=true by rw[Lx.o,UV hkr];rfl);clear hkr;refine nE (S:=(λw'=>w'.cell? (O gx 0)=some (U p)/\w'.cell? (O gx 1)=some (U q)/\C7 E3 w')) j8 ?_ (λo9=>?_)
      ·exact⟨o7.o6 b0,o7.o6 b1,o7⟩
      refine mq ⟨?_⟩;refine PV ⟨?_⟩;refine tk 7 ?_;refine Pi j8 ?_ _;go_wp2;go_meet;exact⟨by rw[HE9.o],I o7⟩
     have heq:((k:Int) == (r:Int))=false:=m9;have HE9:=I (show decide (k=r∨t.at k c=(0,1))=((p == 0)&&(q == 1))by rw[Lx.o,Ok hkr];rfl);clear hkr;cases h1:(p == 0)
     all_goals
      cases h2:(q == 1)
     all_goals
      have HE8:=I HE9.o;rw[h1,h2]at HE8;refine nE (S:=(λw'=>w'.cell? (O gx 0)=some (U p)/\w'.cell? (O gx 1)=some (U q)/\C7 E3 w')) j8 ?_ (λo9=>?_)
      ·exact⟨o7.o6 b0,o7.o6 b1,o7⟩
      refine mq ⟨?_⟩;refine tk 3 ?_;refine tk 4 ?_;refine rd 5 λK hK=>?_;go_simp
      (go_at_call 97;refine IR (cL _ _) λw3 B5=>?_;have o7:=o7.trans B5)
      go_wp2_with fail;refine KO (an (o7.o6 b0) (an (o7.o6 b1) o7)) λo9=>?_;refine tk 6 ?_;refine tk 7 ?_;refine Pi j8 ?_ _;go_wp2;go_meet;exact⟨by rw[HE8.o];rfl,I o7⟩
    obtain⟨rfl,JZ⟩:=hcut;have En:=I (EC.grow JZ);refine Op (Fh.ext En.ext) (Ec.ext En.ext) (C0.trans En.ext) (Uj.ext En.ext) λFu B9 B7 aeC=>?_;clear b0 b1;cases hsk:decide (k=r∨t.at k c=(0,1))
    ·have Yq:=I (tz hsk);clear hsk;have p0:=aw ((X1.trans B7).blk Z);have hzk:=En.ext.o6 HZK.o;have b0:=En.c0;have b1:=En.c1;have⟨sv,Mo⟩:=e9 (Gu (t.row k) (-p,q) mm);have Ff:=I (show Gb t r c mm (k+1)=sv.map λx=>M.set k x by rw[Mo,zM La.o Yq.o,EJ.o];rfl);have Za:=I (λ(w':J) (hx:C7 wc w')=>pI (k1:=-p) (k2:=q) (aeC.ext hx) (B9.ext hx).rats j0);simp only[<-Mo]at Za;have KN:=ST k;have Gj:=Rd k m;clear Mo;go_upto_region 13 with fail;have o7:=C7.drew wc;have o8:=I λw' (h:C7 wc w')=>TX (h.o6 p0) (TX (h.o6 hzk) (TX (h.o6 b0) (TX (h.o6 b1) h)));refine mc o8 o7 λo9=>?_
     refine mq ⟨?_⟩;refine PV ⟨?_⟩;refine tk 7 ?_;refine tk 8 ?_;refine tk 9 ?_;refine tk 10 ?_;refine tk 11 ?_;refine rd 12 λK hK=>?_;go_simp
     (go_at_call 323;refine TS (Za _ o7) λw4 v4 Hd DN=>?_;have TZ:=o7.size;have o7:=o7.trans DN;obtain⟨a4,n4,c4,rfl,Oj⟩:=Hd.var)
     go_wp2_with fail;refine KO (o8 _ o7) λo9=>?_;refine tk 13 ?_;refine Xd ⟨?_⟩;refine Pi j8 ?_ _;refine ns (B7.trans o7) (Fu.ext o7) (Hd.mono TZ) (B9.ext o7) o7 λGm No EI HOM4 HK4=>?_;clear o7 Hd hzk b0 b1 p0 Pd;cases sv with
     | none =>
       have HN:=I (show bW t (r:Int) (c:Int)=none by rw[HPG.o,uD (k:=k+1) (by rw[Ff.o];rfl) Ez];rfl);have XF:=I (X1.trans Gm);have⟨p0,p1,p2⟩:=gl (XF.blk Z);go_wp2_with fail;refine(HCL _ XF).mono ?_;rintro e w8 ⟨⟨va8,vb8,Zt,rfl,I4⟩,hx⟩;have X8:=I (XF.trans hx);have Mc:=I I4;obtain⟨a7,n7,c7,rfl,My⟩:=I4.a.var;obtain⟨a8,n8,c8,rfl,M7⟩:=I4.b.var;have⟨r0,r1,r2⟩:=gl (X8.blk EB);have rf:=dZ (X8.blk EB);have hsz:=XF.size;exact O7
     | some nr =>
       have c8:=No.c0;have⟨G',Ij,MQ,hGc⟩:=No.m.own.cell Ez;obtain rfl:=AA Ij;clear Ij;have Q':w4.cell? (O G k)=some (vs2[k]?.getD undef):=by
        exact Yh
       obtain⟨G',Ij,_,_,P8⟩:=No.m.outer j0;obtain rfl:=AA Ij;clear Ij;have Ki:=I (Fu.put HK4.o (k8 B7.size) EI.o Ez);have FV:=I (Gm.setCell (p:=(O G k)) MQ (GI a4 n4 c4));have HOM5:=I (show WV (w4.setCell (O G k) (GI a4 n4 c4)) E (GI a5 n5 c5) mm from
        HOM4.keep λj hj=>GE _ _ _ _ λe=>aL Fd HOM4.o No.m.own j hj RO)
       have HP5:=I (show Gb t r c mm (k+1)=some (M.set k nr)by rw[Ff.o];rfl);clear hGc;go_wp2_with fail;refine Up ?_;exact⟨k+1,_,_,I (k8 PU.o),by go_num,HP5,Ki,HOM5,FV⟩
    have Is:=I (uE La.o (uf hsk));clear hsk Pd;go_wp2_with fail;refine Up ?_;exact⟨k+1,vs2,M,I (k8 PU.o),by go_num,Is,Fu,B9,B7⟩
   have DV:m=k:=k8 PU.o;subst DV;have HN:=I (show bW t (r:Int) (c:Int)=some ⟨M,t.basis.set r (c:Int),(n:Int)⟩by rw[HPG.o,La.o];rfl);have c81:=aI Fh.box;have⟨B',off',W5,Ts⟩:=Fh.b.ints.at hr;obtain⟨rfl,rfl⟩:=aM W5;clear W5;obtain⟨B',W5,hbB,hbf,_⟩:=Fh.b.block hr;obtain rfl:=AA W5;clear W5;rw[hI]at Ts;have FW:=I (Fh.putB r (c:Int));have IZ:=I (C0.setCell (p:=(O B r)) hbB (U c));go_upto_region 18 with fail;generalize wr.setCell (O B r) (U c)=W9 at FW IZ⊢;clear c81 Ts hbf;have⟨r0,r1,r2⟩:=gl ((X1.trans IZ).blk EB);have rf:=dZ ((X1.trans IZ).blk EB);have⟨t0,t1,t2⟩:=gl FW.box;go_wp2;refine Fn (v:=.tuple #[.agg #[EQ G m ca,EQ B m cb,U n],bl true]) (by simp[results,results325,go_sem,r0,r1,r2,rf]) rfl ⟨?_,((A8.trans X1).trans IZ).IM (b7 _) _ _ _⟩;refine⟨EQ G m ca,EQ B m cb,vs2,?_,?_⟩
   ·unfold ez;rw[HN.o,Nm];rfl
   exact Om
end
structure cg(w:J)(S:Nat)(a:l9)(na ca:Nat)(b:l9)(nb cb:Nat)(c:l9)(nc cc:Nat)(ra:l9)(rn rc:Nat)(ba:l9)(bn bc:Nat)(vs:List arQ)(t:Tb)(n:Nat)(f:Bool):Prop where
 box:w.heap[S]?=some (QD #[GI a na ca,GI b nb cb,GI c nc cc,GI ra rn rc,GI ba bn bc,U t.A6,U n,bl f] 154 (0,0))
 tb:Fp w 0 (GI ra rn rc) (GI ba bn bc) vs t
theorem Fp.setW{base S k:Nat}{G E:arQ}{c:Array arQ}{z:Nat×Nat}{v:arQ}(h:Fp w base G E vs t)(hb:w.heap[S]?=some (QD c 154 z)):Fp (w.setCell (O S k) v) base G E vs t :=
 ⟨bg h.a hb Fd,⟨h.rows.len,λi hi=>bg (h.rows.row i hi) hb Fd,h.rows.apart⟩,bg h.b hb Fd⟩
section
variable{w:J}{S:Nat}{a:l9}{na ca:Nat}{b:l9}{nb cb:Nat}{c:l9}{nc cc:Nat}{ra:l9}{rn rc:Nat}{ba:l9}{bn bc:Nat}{vs:List arQ}{t:Tb}{n:Nat}{f:Bool}
theorem cg.ext{w':J}(h:cg w S a na ca b nb cb c nc cc ra rn rc ba bn bc vs t n f)(hx:C7 w w'):cg w' S a na ca b nb cb c nc cc ra rn rc ba bn bc vs t n f:=⟨(hx.block _ (In h.box)).trans h.box,h.tb.ext hx⟩
theorem cg.cells(h:cg w S a na ca b nb cb c nc cc ra rn rc ba bn bc vs t n f):
 w.cell? (O S 0)=some (GI a na ca)/\w.cell? (O S 1)=some (GI b nb cb)/\w.cell? (O S 2)=some (GI c nc cc)/\w.cell? (O S 3)=some (GI ra rn rc)/\w.cell? (O S 4)=some (GI ba bn bc)/\w.cell? (O S 5)=some (U t.A6)/\w.cell? (O S 6)=some (U n)/\w.cell? (O S 7)=some (bl f)/\∀k,w.frozen? (O S k)=false:=by
 have hb:=h.box;refine⟨?_,?_,?_,?_,?_,?_,?_,?_,λk=>mo w S k _ _ hb⟩<;>rw[aR w S _ _ _ _ hb]<;>rfl
theorem cg.fail(h:cg w S a na ca b nb cb c nc cc ra rn rc ba bn bc vs t n f):cg (w.setCell (O S 7) (bl true)) S a na ca b nb cb c nc cc ra rn rc ba bn bc vs t n true :=
 ⟨cE w S 7 _ _ (bl true) h.box,h.tb.setW h.box⟩
theorem cg.step(h:cg w S a na ca b nb cb c nc cc ra rn rc ba bn bc vs t n f){Ru:l9}{Rt E:Nat}{H:l9}{RZ G:Nat}{K:List arQ}{t':Tb}(ho:Fp w 0 (GI Ru Rt E) (GI H RZ G) K t')(f':Bool):
 cg (((((w.setCell (O S 3) (GI Ru Rt E)).setCell (O S 4) (GI H RZ G)).setCell (O S 5) (U t'.A6)).setCell (O S 6) (U ((n:Int)+1))).setCell (O S 7) (bl f')) S a na ca b nb cb c nc cc Ru Rt E H RZ G K t' (n+1) f':=by
 have b1:=cE w S 3 _ _ (GI Ru Rt E) h.box;have b2:=cE _ S 4 _ _ (GI H RZ G) b1;have Z:=cE _ S 5 _ _ (U t'.A6) b2;have Q:=cE _ S 6 _ _ (U ((n:Int)+1)) Z;have b5:=cE _ S 7 _ _ (bl f') Q;refine⟨?_,((((ho.setW h.box).setW b1).setW b2).setW Z).setW Q⟩;rw[b5];have:((n+1:Nat):Int)=(n:Int)+1:=j7;rw[this];rfl
end
theorem WV.modW{w':J}{S b:Nat}{v:arQ}{l:l7}(h:WV w b v l)(hm:WP S w w'){c:Array arQ}{z:Nat×Nat}(hb:w.heap[S]?=some (QD c 154 z)):WV w' b v l :=
 h.keep λk hk=>hm.block k (h.lt k hk).2 λe=>(aq h hb Fd) RA
def ic(S:Nat)(a:l9)(na ca:Nat)(b:l9)(nb cb:Nat)(c:l9)(nc cc:Nat)(w w':J)(o:Option (Tb×Nat)):Prop :=
 WP S w w'/\∃ra rn rc ba bn bc vs,match o with
  | some (t,n)=>cg w' S a na ca b nb cb c nc cc ra rn rc ba bn bc vs t n false
  | none=>∃t n,cg w' S a na ca b nb cb c nc cc ra rn rc ba bn bc vs t n true
section
variable{w:J}{S:Nat}{a:l9}{na ca:Nat}{b:l9}{nb cb:Nat}{c:l9}{nc cc:Nat}{ra:l9}{rc:Nat}{ba:l9}{bc:Nat}{vs:List arQ}{t:Tb}{n:Nat}
theorem uR{N m:Nat}{T0:Nat->Nat->Rat}(h:cg w S a na ca b nb cb c nc cc ra m rc ba m bc vs t n false)(K:EY N m T0 t)(hN:N<=1000)(hm:m<=1000)(hn:n<=1000){r k:Nat}(hr:r<m)(hk:k<N):
 Calls prog 301 #[aP (some (O S 0)),U r,U k] w λe w'=>e=ar (.tuple #[])/\ic S a na ca b nb cb c nc cc w w' (Hs t n (r:Int) (k:Int)):=by
 have hlt:=In h.box;have⟨l0,l1,l2,c0,c1,c2,c3,c4,cf⟩:=h.cells;have H:=I h;rw[K.A6]at c2;by_cases PB:n=1000
 ·subst PB;have HP:=I (show Hs t 1000 (r:Int) (k:Int)=none by unfold Hs;rw[f9 rfl]);clear h K;exact Pq
 have SC:¬(n:Int)≥1000:=j0;have FT:n<1000:=j0;have M5:=I (tJ h.tb.I3 K hN hm hr hk);have HP:=I (show Hs t n (r:Int) (k:Int)=(bW t (r:Int) (k:Int)).map λt'=>(t',n+1)by unfold Hs;rw[f7 PB]);have KX:=I K.A6;clear h K PB;unfold Tx ez at M5;have⟨o,ho⟩:=e9 (bW t (r:Int) (k:Int));have Pp:=I (show(o.getD t).A6=(N:Int)by
  cases o with
  | none=>exact KX
  | some t' =>
     have E:=ho.symm;unfold bW at E;split at E
     ·unfold iH at E;cases hd:JM (t.row (Int.toNat (r:Int))) (t.at (Int.toNat (r:Int)) (Int.toNat (k:Int)))with
      | none=>rw[hd]at E;cases E
      | some mm=>rw[hd,mr,Sc]at E;obtain⟨rs,_,rfl⟩:=E;exact KX
     cases E)
 rw[<-ho]at M5 HP;clear ho;go_in
 go_wp2_with fail;refine M5.mono ?_;rintro e w1 ⟨⟨va,vb,Q,rfl,ho⟩,hx⟩;obtain⟨a7,n7,c7,rfl,My⟩:=ho.a.var;obtain⟨a8,Z,c8,rfl,M7⟩:=ho.b.var;rw[Pp.o];have⟨E1,QG⟩:=e9 (w1.alloc (QD #[GI a7 n7 c7,GI a8 Z c8,U N] 151));have⟨gE,G⟩:=e9 w1.heap.size;refine t8 (show C7 w E1 by rw[QG];exact hx.trans WU) (show Fp E1 0 (GI a7 n7 c7) (GI a8 Z c8) Q (o.getD t)by rw[QG];exact(ho.ext WU).mono (gi _)) (show E1.heap[gE]?=some (QD #[GI a7 n7 c7,GI a8 Z c8,U N] 151 (0,0))by rw[QG,G];exact IO rfl) λX1 HO EC=>?_;have HS:=I (H.ext X1);go_upto_region 3 with fail;rw[<-QG,<-G];clear QG G ho hx l0 l1 l2 c0 c1 c2 c3 c4 cf;have⟨l0,l1,l2,c0,c1,c2,c3,c4,cf⟩:=HS.cells;rw[KX.o]at c2;have⟨b0,b1,b2⟩:=gl EC.o;have Ez:=In EC.o;have hne:gE≠S:=λe=>lJ EC.o HS.box Fd e
 have F4:=I (λf'=>HS.step HO.o f');rw[Pp.o]at F4;cases o with
 | none =>
   go_wp2_with fail;refine VP (Wt rfl _ _ _) rfl ⟨rfl,(WP.of X1).trans ((((MR.trans MR).trans MR).trans MR).trans MR),?_⟩;rw[HP.o];exact⟨_,_,_,_,_,_,_,_,_,F4.o true⟩
 | some t' =>
   go_wp2_with fail;refine VP (Wt rfl _ _ _) rfl ⟨rfl,(WP.of X1).trans ((((MR.trans MR).trans MR).trans MR).trans MR),?_⟩;rw[HP.o];exact⟨_,_,_,_,_,_,_,F4.o false⟩
end
def YV(S:Nat)(a:l9)(na ca:Nat)(b:l9)(nb cb:Nat)(c:l9)(nc cc:Nat)(w:J)(e:Ending)(w':J)(o:Option Ph):Prop :=
 WP S w w'/\∃ra rn rc ba bn bc vs,match o with
  | some p=>∃v,e=ar (.tuple #[v,U p.DU])/\WV w' w v p.costs/\cg w' S a na ca b nb cb c nc cc ra rn rc ba bn bc vs p.t (1000-p.left) false
  | none=>∃v DU t n,e=ar (.tuple #[v,U DU])/\cg w' S a na ca b nb cb c nc cc ra rn rc ba bn bc vs t n true
section
variable{w:J}{S:Nat}{a:l9}{na ca:Nat}{b:l9}{nb cb:Nat}{c:l9}{nc cc:Nat}
structure Yd(w wr:J)(S:Nat)(a:l9)(na ca:Nat)(b:l9)(nb cb:Nat)(c:l9)(nc cc:Nat)(N m:Nat)(T0:Nat->Nat->Rat)(cost:l7)(o:Option Ph)(gk:Nat)(nn:Nat)(tt:Tb)(ra:l9)(rc:Nat)(ba:l9)(bc:Nat)(vs:List arQ):Prop where
 meas:gk=1000-nn
 mod:WP S w wr
 st:cg wr S a na ca b nb cb c nc cc ra m rc ba m bc vs tt nn false
 inv:EY N m T0 tt
 le:nn<=1000
 go:bD cost (1000-nn) tt=o
theorem cg.same{ra:l9}{rn rc:Nat}{ba:l9}{bn bc:Nat}{vs:List arQ}{t:Tb}{n:Nat}{f:Bool}{N m:Nat}{T0:Nat->Nat->Rat}(h:cg w S a na ca b nb cb c nc cc ra rn rc ba bn bc vs t n f)(E:EY N m T0 t):rn=m/\bn=m:=E.sizes h.tb.I3
theorem uQ{ra:l9}{rc:Nat}{ba:l9}{bc:Nat}{vs:List arQ}{t:Tb}{n:Nat}{N m:Nat}{T0:Nat->Nat->Rat}(h:cg w S a na ca b nb cb c nc cc ra m rc ba m bc vs t n false)(hT:EY N m T0 t)(hN:N<=1000)(hm:m<=1000)(hn:n<=1000){ka:l9}{kn kc b0:Nat}{cost:l7}(hc:WV w b0 (GI ka kn kc) cost)(Fe:kn=N+m)(hv:FM cost=true):
 Calls prog 243 #[aP (some ⟨S,0,none⟩),GI ka kn kc] w λe w'=>YV S a na ca b nb cb c nc cc w e w' (bD cost (1000-n) t):=by
 have⟨o,ho⟩:=e9 (bD cost (1000-n) t);rw[<-ho];refine ns (show Yd w w S a na ca b nb cb c nc cc N m T0 cost o (1000-n) n t ra rc ba bc vs from⟨rfl,WP.refl _ _,h,hT,hn,ho.symm⟩) hc h.box Fe hv λH0 HC EC FP Pt=>?_;have hlt:=In h.box;clear h hT ho hc Fe hv;go_in
 go_wp2
 go_loopg [6] (1000-n) (λgk s6 wr=>∃(nn:Nat) (E:Tb) (ra:l9) (rc:Nat) (ba:l9) (bc:Nat) (vs:List arQ),b9 (Yd w wr S a na ca b nb cb c nc cc N m T0 cost o gk nn E ra rc ba bc vs))
 ·exact⟨n,t,_,_,_,_,_,H0⟩
 obtain⟨nn,E,ra,rc,ba,bc,vs,H⟩:=hrel;have⟨l0,l1,Z,c0,c1,c2,c3,c4,cf⟩:=H.st.cells;have hl1:=In H.st.box;have IK:=H.mod.size;have HT:=I H.inv;have FT:=H.le;have HPH:=I H.go;have KX:=I H.inv.A6;rw[KX.o]at c2;have Zm:=I (Dk H.st.tb.I3 HT.o hN hm (HC.modW H.mod EC).rats FP.o Pt);cases K:dC E cost with
 | none =>
   have HO:=I (show o=none by rw[<-HPH.o];exact rJ _ K);rw[K]at Zm;go_wp2_with fail;refine Zm.mono ?_;simp only[XK,PI];rintro e w2 ⟨⟨v2,rfl,Gs⟩,hx⟩;have HS:=I (H.st.ext hx);have HM:=I (H.mod.trans (WP.of hx));clear Gs hx l0 l1 Z c0 c1 c2 c3 c4 cf K;have⟨l0,l1,Z,c0,c1,c2,c3,c4,cf⟩:=HS.cells;exact Mj
 | some cs =>
   rw[K]at Zm;have Qh:=I K;go_wp2_with fail;refine Zm.mono ?_;simp only[Nm,bk];rintro e w2 ⟨⟨v2,rfl,Gs⟩,hx⟩;obtain⟨a2,n2,p2,rfl,Hb⟩:=Gs.var;refine t8 (H.st.ext hx) (H.mod.trans (WP.of hx)) (show WV w2 w (GI a2 n2 p2) cs from WV.mono Gs IK) λHS HM Ec=>?_;have Nf:N<=n2:=by have h1:=Hb.o;rw[(fi HT.o Qh).1.1]at h1;omega
   clear Gs hx l0 l1 Z c0 c1 c2 c3 c4 cf K;have⟨l0,l1,Z,c0,c1,c2,c3,c4,cf⟩:=HS.cells;rw[KX.o]at c2;have⟨DU,Lp⟩:=e9 (bQ cs (N:Int));have HCL:=I Lp;have Ps:=I (show bQ cs E.A6=DU by rw[KX.o,Lp]);have hrng:=kp cs N;rw[<-Lp]at hrng;clear Lp;go_upto_region 5 with fail;have o7:=C7.drew w2;have D0:=o7;have o8:=I (λ(w':J) (h:C7 w2 w')=>(an (h.o6 c0) (an (h.o6 c1) (an (h.o6 c2) h))))
   go_region_held3 (λw'=>w'.cell? ⟨S,3,none⟩=some (GI ra m rc)/\w'.cell? ⟨S,4,none⟩=some (GI ba m bc)/\w'.cell? ⟨S,5,none⟩=some (.int .i64 (N:Int))/\C7 w2 w')
    (with_reducible exact o8.o _ o7)
    (first
      | ((with_reducible refine(qz (ra:=ra) (rn:=m) (rc:=rc) (ba:=ba) (bn:=m) (bc:=bc) (x:=(N:Int)) (Ec.o.rats.ext Mt) N Nf).mono ?_)
         rw[<-HCL.o];rintro e w3 ⟨rfl,C6⟩;have o7:C7 w2 w3:=o7.trans C6;have Pf:=o7.size))
   clear D0;refine t8 (HS.ext o7) (HM.trans (WP.of o7)) (Ec.ext o7) λK9 J0 B9=>?_;clear o7 l0 l1 Z c0 c1 c2 c3 c4 cf;rcases hrng with D1|⟨cN,hcN,Mu⟩
   ·subst D1;have HO:=I (show o=some ⟨E,1000-nn,cs,-1⟩by rw[<-HPH.o];exact pC _ Qh.o (by rw[Ps.o];omega));exact ID
   subst hcN;have⟨l0,l1,Z,c0,c1,c2,c3,c4,cf⟩:=K9.cells;rw[KX.o]at c2;have Mz:=I (xK K9.tb.I3 HT.o hN hm Mu);have⟨row,z8⟩:=e9 (dL E (cN:Int));have GA:=I (show dL E (bQ cs E.A6)=row by rw[Ps.o,z8]);have EU:row=-1∨(0<=row/\row<m):=by
    rw[z8];unfold dL;split
    ·have:=ld E (Int.toNat (cN:Int)) (JL E.rows);rw[HT.len]at this⊢;exact this
    exact xt rfl
   rw[<-z8]at Mz;have hcn0:¬(cN:Int)<0:=j0;clear z8;go_wp2_with fail;refine IR Mz λw4 hx=>?_;refine t8 (K9.ext hx) (J0.trans (WP.of hx)) (B9.ext hx) λOy Lc EI=>?_;clear hx l0 l1 Z c0 c1 c2 c3 c4 cf;rcases EU with Eb|⟨Eb,Eh⟩
   ·subst Eb;have HO:=I (show o=some ⟨E,1000-nn,cs,(cN:Int)⟩by
     rw[<-HPH.o,pD _ Qh.o (by rw[Ps.o];omega) (by rw[GA.o];omega),Ps.o])
    exact Lk
   obtain⟨rN,hrN⟩:∃k:Nat,row=k:=⟨row.toNat,by omega⟩;subst hrN;have IT:rN<m:=j0;have hrn0:¬(rN:Int)<0:=j0;have LI:=I (show o=(Hs E nn (rN:Int) (cN:Int)).bind λs=>bD cost (1000-s.2) s.1 by
    rw[<-HPH.o,pE FT Qh.o (by rw[Ps.o];omega) (by rw[GA.o];omega),GA.o,Ps.o])
   have M5:=I (uR Oy.o HT.o hN hm FT IT Mu);have HK:b9 (gk=1000-nn):=H.meas;go_wp2_with fail;refine M5.mono ?_;rintro e w5 ⟨rfl,Mr,ra5,rn5,rc5,ba5,bn5,bc5,Zu,EA⟩;cases Kt:Hs E nn (rN:Int) (cN:Int)with
   | none =>
     rw[Kt]at EA;obtain⟨t5,n5,KJ⟩:=EA;refine t8 (show o=none by rw[LI.o,Kt];rfl) KJ (Lc.trans Mr) λHO JP Jo=>?_;clear KJ Kt Mr;have⟨l0,l1,Z,c0,c1,c2,c3,c4,cf⟩:=JP.cells;go_wp2;go_ret2;refine⟨Jo,?_⟩;rw[HO.o];exact⟨_,_,_,_,_,_,_,_,_,_,_,rfl,JP⟩
   | some st =>
     obtain⟨t5,n5⟩:=st;rw[Kt]at EA;have Ku:n5=nn+1/\nn<1000/\bW E (rN:Int) (cN:Int)=some t5:=by
      exact Qx
     obtain⟨rfl,hlt5,hpt⟩:=Ku;have HO:=I (show bD cost (1000-(nn+1)) t5=o by rw[LI.o,Kt];rfl);have hT5:=gS HT.o hpt;have⟨e1,e2⟩:=cg.same EA hT5;have Ua:=e1.symm;have e2':=e2.symm;clear e1 e2;subst Ua;subst e2';have HH5:b9 (Yd w w5 S a na ca b nb cb c nc cc N m T0 cost o (1000-(nn+1)) (nn+1) t5 ra5 rc5 ba5 bc5 Zu):=I ⟨rfl,Lc.trans Mr,EA,hT5,by omega,HO⟩;have⟨l0,l1,Z,c0,c1,c2,c3,c4,cf⟩:=cg.cells EA;clear EA Kt Mr hpt hT5;go_wp2
     go_roundg (1000-(nn+1))
     case measure=>exact cS
     exact⟨nn+1,t5,_,_,_,_,_,HH5⟩
end
section
variable{w:J}{a:l9}{na ca:Nat}{b:l9}{nb cb:Nat}{c:l9}{nc cc:Nat}{A:l8}{B:o3}{C:l7}
def js(first:Bool)(C:l7)(m:Nat):l7:=if first=true then eQ (JL C) m else dw C m
theorem uP(h:Kh w a na ca b nb cb c nc cc A B C)(first:Bool)(h1:nc<=1000)(h2:na<=1000):
 Calls prog 244 #[Ig a na ca b nb cb c nc cc,bl first] w λe w'=>(∃v,e=ar v/\WV w' w v (js first C na))/\C7 w w':=by
 have B8:=C7.alloc w (bT a na ca b nb cb c nc cc);have A8:=I B8;have Z:=I (ai w (bT a na ca b nb cb c nc cc) _ rfl);have⟨W,hW⟩:=e9 (w.alloc (bT a na ca b nb cb c nc cc));have H:=I (h.ext B8);rw[<-hW]at B8 A8 Z H;have⟨Eu,GU⟩:=h.c.aq9;have⟨T',ON⟩:=h.a.aq9;have HL:=I h.c.hlen;have Mn:W.heap.size=w.heap.size+1:=by rw[hW];simp
 have aeN:=I (WV.made W (w+1) j0);have X1:=I (C7.alloc W (QD #[] 56));rw[Mn]at aeN;clear h B8;go_in
 go_upto_region 1 with fail;rw[<-hW];clear hW;have⟨D,hD⟩:=e9 (if first=true then List.replicate nc ((0:Int),(1:Int)) else C)
 have HD:=I hD;have Mf:=I (show JL D=nc by rw[hD];cases first<;>simp[HL.o]);have HSO:=I (show js first C na=D++List.replicate na (D3 first,1)by
  unfold js eQ dw;rw[hD,HL.o];cases first<;>rfl)
 clear hD;go_wp2
 go_loopg [5,6] nc (λgk oo ii wr=>∃(k:Nat) (K:l9) (E p1:Nat),b9 (gk+k=nc)/\ii=U k/\oo=GI K E p1/\b9 (WV wr (w+1) (GI K E p1) (D.take k))/\b9 (C7 W wr))
 ·exact SD
 rename Nat=>g1;rename J=>y9;obtain⟨k,K,E,q1,HK,rfl,rfl,HO1,HX⟩:=hrel;have p2:=aJ (HX.blk Z);have hsz:=HX.size;by_cases G:k<nc
 ·have EW:=I (show(D.take k).length=k by rw[k6,Mf.o];omega);have aa:=I (λ(p:o4) (hp:D[k]?.getD (0,0)=p)=>show D.take k++[p]=D.take (k+1)by rw[es (by rw[Mf.o];exact G),hp]);cases first
  ·have⟨eb,DI,ex,ey,IU,T8,Fg,Kc⟩:=(H.ext HX).c.at G;subst IU;have F9:=I (aa (ex,ey) (by rw[HD.o];exact T8));clear T8
   go_wp2_with (first
    | (at_builtin;refine Ot ex ey HO1 HX N5 λa5 n5 p5 w5 It X5 DT=>?_))
   refine kf ?_;exact RI
  have F9:=I (aa (0,1) (by rw[HD.o];exact xA G));go_wp2_with fail;refine i7 (cL 0 _) λw3 hx=>?_;have X3:=I (HX.trans hx);have B9:=I (HO1.ext hx);have J8:=X3.size;clear p2
  go_wp2_with (first
   | (at_builtin;refine Ot 0 1 B9 X3 N5 λa5 n5 p5 w5 It X5 DT=>?_))
  refine kf ?_;exact RI
 have Iq:k=nc:=k8 HK.o;have Ec:=I (show WV y9 (w+1) (GI K E q1) (D++List.replicate 0 (D3 first,1))by
  have:=HO1.o;rw[bR (by rw[Mf.o];omega)]at this;simpa using this)
 clear Iq;go_wp2_with fail;clear p2
 go_loopg [5,7] na (λgk oo ii wr=>∃(k:Nat) (K:l9) (E p1:Nat),b9 (gk+k=na)/\ii=U k/\oo=GI K E p1/\b9 (WV wr (w+1) (GI K E p1) (D++List.replicate k (D3 first,1)))/\b9 (C7 W wr))
 ·exact⟨0,_,_,_,I j0,rfl,rfl,Ec,HX⟩
 obtain⟨j,a2,n2,q2,HJ,rfl,rfl,EI,Gm⟩:=hrel;have p0:=aw (Gm.blk Z);have Th:=Gm.size;by_cases F0:j<na
 ·have EW:=I (show(D++List.replicate j (D3 first,(1:Int))).length=nc+j by rw[SW,Mf.o,G6]);have Od:=I (λw'=>fH first w');go_wp2_with (go_at_call 170;refine(Od _).mono ?_;rintro e w2 ⟨rfl,rfl⟩);refine i7 (cL (D3 first) _) λw3 hx=>?_;have X3:=I (Gm.trans hx);have B9:=I (EI.ext hx);have J8:=X3.size;clear p0
  go_wp2_with (first
   | (at_builtin;refine Ot (D3 first) 1 B9 X3 N5 λa5 n5 p5 w5 It X5 DT=>?_))
  refine vE ?_;exact⟨j+1,a5,n5,p5,I (k8 HJ.o),by go_num,rfl,I ER,X5⟩
 have Ln:na=j:=k8 HJ.o;exact NQ
end
theorem UI(a b:o4):-1000000000<=(D9 a b).1.1/\(D9 a b).1.1<=1000000000:=by
 cases h:(D9 a b).2
 ·rw[oz h];simp
 have:=aU (oV h).2.2.1;omega
theorem ah.put0{W:J}{g:Nat}{p q:Int}(h:ah w W g p q)(p':Int):ah w (W.setCell (O g 0) (U p')) g p' q :=
 ⟨h.ext.setCell (p:=(O g 0)) h.ge (U p'),h.ge,by rw[cE _ _ _ _ _ _ h.cell];rfl⟩
section
variable{w:J}{S:Nat}{a:l9}{na ca:Nat}{b:l9}{nb cb:Nat}{c:l9}{nc cc:Nat}{ra:l9}{rn rc:Nat}{ba:l9}{bn bc:Nat}{vs:List arQ}{t:Tb}{n:Nat}{f:Bool}
def Js(h:σ:=by
 have Kc:e1=d1:=by have:=K8.o;unfold He at this;rw[f7 j0]at this;exact(If Prod.fst this).symm
 subst Kc;rw[show decide (bi<0)=false from Ok j0];go_wp2;go_meet;exact⟨rfl,Ee⟩
 ):σ:=h
theorem xV{N:Nat}(h:cg w S a na ca b na cb c nc cc ra rn rc ba bn bc vs t n f)(IC:t.A6=N){B:o3}(hB:d9 w b na cb B)(hca1:na<=ca)(hca2:ca<=9223372036854775807){ka:l9}{kn kc:Nat}{Z:l7}(hK:i6 w ka kn kc Z)(DV:N+na<=kn)(hbig:kn<=100000)(base:Int):
 Calls prog 246 #[aP (some ⟨S,0,none⟩),GI ka kn kc,.int .i64 base] w λe w'=>(∃v,e=ar v/\WV w' w v ((List.range na).map (ek B (base,1) Z N)))/\C7 w w':=by
 have H:=I h;have hlt:=In h.box;have HB:=I hB;have HK':=I hK;have E6:=hB.r8;have Ew:=hB.r9;have Gj:=hK.r8;have adC:=hK.r9;refine t8 IC (WV.made w w (i8 _)) (C7.alloc w (QD #[] 56)) λKX aeN X1=>?_;clear h hB hK IC;go_in
 go_wp2
 go_loopg [7,8] na (λgk oo ii wr=>∃(k:Nat) (a1:l9) (n1 p1:Nat),b9 (gk+k=na)/\ii=.int .i64 (k:Int)/\oo=GI a1 n1 p1/\b9 (WV wr w (GI a1 n1 p1) ((List.range k).map (ek B (base,1) Z N)))/\b9 (C7 w wr))
 ·exact SD
 obtain⟨k,a1,n1,q1,HK,rfl,rfl,HR,GV⟩:=hrel;have hsz:=GV.size;have⟨l0,l1,l2,c0,c1,c2,c3,c4,cf⟩:=(H.ext GV).cells;rw[KX.o]at c2;by_cases Ez:k<na
 ·have⟨z,hz⟩:=e9 (N+k);have hzu:z<kn:=by omega
  have⟨zb,ED,ex,ey,JA,T8,Fg,Kc⟩:=(HK'.ext GV).at hzu;subst JA;obtain⟨d1,K,MU,E⟩:∃x y ok,D9 (base,1) (ex,ey)=((x,y),ok):=⟨_,_,_,rfl⟩;have Km:=I E;have G:=UI (base,1) (ex,ey);rw[E]at G;have Pd:IntKind.i64.wrap (-d1)=-d1:=by rw[mn];simp only at G;omega
  have⟨bb,L8,hba,G5⟩:=(HB.ext GV).at Ez;subst hba;have⟨bi,Hi⟩:=e9 (B[k]?.getD 0);rw[<-Hi]at G5;have Ko:=I G5;have TR:=I (show ek B (base,1) Z N k=He bi (d1,K)by unfold ek;rw[<-hz,T8,E,Hi]);have YL:=wq ((N:Int)+(k:Int)) (z:Int);have V0:=ST z;have VZ:=Rd z kn;clear T8 E Hi hz G;go_upto_region 5 with fail;go_upto_region 5 with fail
  go_cut [9,10] (λsx so wx=>∃g:Nat,sx=aP (some ⟨g,0,none⟩)/\so=bl MU/\b9 (ah wr wx g d1 K))
  case first =>
   have o7:=C7.drew wr;have D0:C7 wr (wr.alloc (QD #[.int .i64 0,.int .i64 0] 56)).drew:=WU.trans cn;have o8:=I (λ(w':J) (h:C7 wr w')=>(an (h.o6 c2) (an (h.o6 Fg) (an (h.o6 Kc) h))))
   go_region_held3 (λw'=>w'.cell? ⟨S,5,none⟩=some (.int .i64 (N:Int))/\w'.cell? ⟨zb,ED+z*2,none⟩=some (.int .i64 ex)/\w'.cell? ⟨zb,ED+z*2+1,none⟩=some (.int .i64 ey)/\C7 wr w')
    (exact Hz)
    (first
      | ((with_reducible refine(cL base _).mono ?_)
         rintro e w7 ⟨rfl,ER⟩
         first|(with_reducible have A1:=ah.grow A1 ER)|(with_reducible have A1:=ah.DS ER)|(with_reducible have A1:=ah.DX o7 ER)|skip
         first|(have IX:=A1.c0;have IW:=A1.c1;have Kf:=A1.free)|skip
         have o7:C7 wr w7:=Qt;have FB:=o7.size)
      | ((with_reducible refine(qB base 1 ex ey _).mono ?_)
         rw[Km.o];rintro e w8 ⟨rfl,FQ⟩
         first|(with_reducible have A1:=ah.grow A1 FQ)|(with_reducible have A1:=ah.DS FQ)|(with_reducible have A1:=ah.DX o7 FQ)|skip
         first|(have IX:=A1.c0;have IW:=A1.c1;have Kf:=A1.free)|skip
         have o7:C7 wr w8:=WN;have FB:=o7.size))
   all_goals(exact Jm)
  obtain⟨g,rfl,rfl,Ee⟩:=hcut;have SQ:=I (GV.trans Ee.ext);clear YL V0 VZ Fg Kc l0 l1 l2 c0 c1 c2 c3 c4 cf G5;have⟨l0,l1,l2,c0,c1,c2,c3,c4,cf⟩:=(H.ext SQ).cells;have G5:=Ee.ext.o6 Ko.o;have Ec:=I (HR.ext Ee.ext);obtain⟨e1,J7⟩:∃e1,He bi (d1,K)=(e1,K):=by unfold He C5;split<;>exact⟨_,rfl⟩
  have K8:=I J7;clear J7;go_upto_if 46 with fail
  go_cut [8] (λs8 wx=>s8=.int .i64 (k:Int)/\b9 (ah wr wx g e1 K))
  case first =>
   have g0:=Ee.c0;have g1':=Ee.c1;have gf:=Ee.free;by_cases MP:bi<0
   ·have Kc:-d1=e1:=by have:=K8.o;unfold He C5 at this;rw[f9 MP]at this;exact If Prod.fst this
    rw[show decide (bi<0)=true from UV MP];have HBN:=I (Ee.put0 e1);rw[Kc]at Pd;clear MP;go_wp2;go_meet;exact⟨rfl,by first|exact HBN|(rw[Kc];exact HBN)⟩
   exact Js
  obtain⟨rfl,En⟩:=hcut;have B9:=I (HR.ext En.ext);have B7:=I (GV.trans En.ext);have g0:=En.c0;have g1':=En.c1;have JK:=En.lt;have J8:=B7.size;have MZ:=I (show((List.range k).map (ek B (base,1) Z N)).length=k by simp);have F9:=I (show(List.range k).map (ek B (base,1) Z N)++[(e1,K)]=(List.range (k+1)).map (ek B (base,1) Z N)by rw[<-K8.o,<-TR.o];exact dm _ _);clear l0 l1 l2 c0 c1 c2 c3 c4 cf G5 Pd
  go_wp2_with (first
   | (at_builtin;refine Ot e1 K B9 B7 K0 λa5 n5 p5 w5 It X5 DT=>?_))
  have LN:=HK;refine Zl ?_;exact RI
 have D7:na=k:=k8 HK.o;exact pv
end
section
variable{w:J}{S:Nat}{a:l9}{na ca:Nat}{b:l9}{nb cb:Nat}{c:l9}{nc cc:Nat}{ra:l9}{rc:Nat}{ba:l9}{bc:Nat}{vs:List arQ}{t:Tb}{n:Nat}{N m:Nat}{T0:Nat->Nat->Rat}
def ff(h:σ:=by
 go_wp2_with fail;refine Z5 ?_;exact⟨i+1,I (k8 HI.o),by go_num,Np,B7⟩
 ):σ:=h
theorem ZD(h:cg w S a na ca b nb cb c nc cc ra m rc ba m bc vs t n false)(hT:EY N m T0 t)(hN:N<=1000)(hm:m<=1000){jc:Nat}(hjc:jc<N):
 Calls prog 249 #[aP (some ⟨S,0,none⟩),.int .i64 (jc:Int)] w λe w'=>(∃v,e=ar v/\WV w' w v (F6 t N jc m))/\C7 w w':=by
 have H:=I h;have aa:=In h.box;have HT:=I hT;have KX:=I hT.A6;have Eh:=h.tb.I3.rows.r8;have FZ:=h.tb.I3.rows.r9;have E6:=h.tb.I3.basis.r8;have Ew:=h.tb.I3.basis.r9;have aeN:=I (WV.made w w (i8 _));have X1:=I (C7.alloc w (QD #[] 56));clear h hT;go_in
 go_wp2
 go_loopg [5,6] N (λgk oo ii wr=>∃(k:Nat) (a1:l9) (n1 p1:Nat),b9 (gk+k=N)/\ii=.int .i64 (k:Int)/\oo=GI a1 n1 p1/\b9 (WV wr w (GI a1 n1 p1) ((List.range k).map λi=>if i=jc then((1:Int),(1:Int)) else(0,1)))/\b9 (C7 w wr))
 ·exact SD
 rename Nat=>g1;rename J=>y9;obtain⟨k,a1,n1,q1,HK,rfl,rfl,HO1,HX⟩:=hrel;have hsz:=HX.size;have⟨l0,l1,l2,c0,c1,c2,c3,c4,cf⟩:=(H.ext HX).cells;rw[KX.o]at c2;by_cases Ez:k<N
 ·have EW:=I (show((List.range k).map λi=>if i=jc then((1:Int),(1:Int)) else(0,1)).length=k by simp);obtain⟨un,LB⟩:∃u:Int,u=if k=jc then 1 else 0:=⟨_,rfl⟩
  have F9:=I (show(List.range k).map (λi=>if i=jc then((1:Int),(1:Int)) else(0,1))++[(un,1)]=(List.range (k+1)).map λi=>if i=jc then((1:Int),(1:Int)) else(0,1)by
   rw[<-dm,LB];congr 2;split<;>rfl)
  have Ng:((k:Int) == (jc:Int))=decide (k=jc):=by by_cases h:k=jc<;>simp[h]<;>omega
  have HUN:=I (show D3 (decide (k=jc))=un by rw[LB];by_cases h:k=jc<;>simp[h,D3]);have Od:=I (λw'=>fH (decide (k=jc)) w');rw[HUN.o]at Od;clear LB;go_wp2_with (go_at_call 170;refine(Od _).mono ?_;rintro e w2 ⟨rfl,rfl⟩);clear Ng;refine IR (cL un _) λw3 hx=>?_;have X3:=I (HX.trans hx);have B9:=I (HO1.ext hx);have J8:=X3.size;clear hx l0 l1 l2 c0 c1 c2 c3 c4 cf
  go_wp2_with (first
   | (at_builtin;refine Ot un 1 B9 X3 N5 λa5 n5 p5 w5 It X5 DT=>?_))
  go_roundg (g1-1)
  case measure=>exact cS
  exact RI
 have Qw:N=k:=k8 HK.o;have Ec:=I (show WV y9 w (GI a1 n1 q1) (F6 t N jc 0)by rw[Qw];exact HO1);obtain rfl:N=n1:=by have h1:=Ec.rats.hlen;rw[kC]at h1;exact h1
 clear Qw;go_wp2_with fail;clear l0 l1 l2 c0 c1 c2 c3 c4 cf
 go_loopg [7] m (λgk ii wr=>∃i:Nat,b9 (gk+i=m)/\ii=.int .i64 (i:Int)/\b9 (WV wr w (GI a1 N q1) (F6 t N jc i))/\b9 (C7 w wr))
 ·exact YJ
 obtain⟨i,HI,rfl,HR,GV⟩:=hrel;have GJ:=I (H.ext GV);have⟨l0,l1,l2,c0,c1,c2,c3,c4,cf⟩:=GJ.cells;rw[KX.o]at c2;have Nc:=GV.size;by_cases hlt:i<m
 ·have⟨eb,DI,IU,Fg⟩:=GJ.tb.I3.basis.at hlt;subst IU;have⟨bb,NK⟩:=e9 (t.basis[i]?.getD 0);rw[<-NK]at Fg;have Gf:=I NK;have Nj:0<=bb/\bb<N+m:=by
   exact Wm
  have hi0:=ST i;have hi1:=Rd i m;clear NK;go_upto_region 9 with fail;have o7:=C7.drew wr;have o8:=I λw' (h:C7 wr w')=>TX (h.o6 c1) (TX (h.o6 c2) (TX (h.o6 Fg) h));refine mc o8 o7 λo9=>?_
  refine vA ⟨?_⟩;refine Pi j8 ?_ _;have B7:=I (GV.trans o7);have Z:=I (HR.ext o7);have E8:∃x,x=wr.drew:=⟨_,rfl⟩;obtain⟨w3,E8⟩:=E8;rw[<-E8]at B7 Z;rw[<-E8];clear o7 l0 l1 l2 c0 c1 c2 c3 c4 cf Fg E8 o9;by_cases Ts:bb<(N:Int)
  ·obtain⟨E,hbN⟩:∃n:Nat,bb=n:=⟨bb.toNat,by omega⟩;subst hbN;have QC:E<N:=by omega
   have⟨l0,l1,l2,c0,c1,c2,c3,c4,cf⟩:=H.cells;have⟨eb',Xp,NJ,Fg⟩:=H.tb.I3.basis.at hlt;simp only[bq,H4,E5]at NJ;obtain⟨rfl,rfl⟩:=NJ;rw[<-Gf.o]at Fg;have⟨Zr,Ld,ya,yn,yc,Rz,F8,z8⟩:=H.tb.I3.rows.at hlt;subst Rz;have Lj:yn=N+m+1:=by rw[<-z8.hlen];exact(HT.row i hlt).1
   have EN:=z8.r8;have KG:=z8.r9;have⟨yb,Et,p,q,KY,D4,Qq,Qp⟩:=z8.at (show jc<yn by omega);subst KY;have hjy:=Rd jc yn;have hj0:=ST jc;have hbI:=Rd E N;have hbI0:=ST E;have EJ:b9 (t.at i jc=(p,q)):=D4;have LV:-9223372036854775807<=p:=by have:=(HT.bounds.2 i jc).1;rw[EJ.o]at this;exact this
   have MM:p<=9223372036854775807:=by have:=(HT.bounds.2 i jc).2;rw[EJ.o]at this;exact this
   have I9:=I LV;clear D4 z8 Lj Nj;obtain⟨G,hG,MQ,_,_⟩:=Z.block (k:=E) QC;subst hG;go_upto_region 10 with fail;have o7:=C7.drew w3;have o8:=I λw' (h:C7 w w')=>TX (h.o6 c0) (TX (h.o6 c1) (TX (h.o6 Fg) (TX (h.o6 F8) (TX (h.o6 Qq) (TX (h.o6 Qp) h)))));refine nE (S:=(λw'=>w'.cell? ⟨S,3,none⟩=some (GI (some ⟨Zr,Ld,none⟩) m rc)/\w'.cell? ⟨S,4,none⟩=some (GI (some ⟨eb,DI,none⟩) m bc)/\w'.cell? ⟨eb,DI+i,none⟩=some (.int .i64 (E:Int))/\w'.cell? ⟨Zr,Ld+i,none⟩=some (GI (some ⟨yb,Et,none⟩) yn yc)/\w'.cell? ⟨yb,Et+jc*2,none⟩=some (.int .i64 p)/\w'.cell? ⟨yb,Et+jc*2+1,none⟩=some (.int .i64 q)/\C7 w w')) j8 ?_ (λo9=>?_)
   ·exact o8.o _ (B7.trans o7)
   refine vA ⟨?_⟩;refine Xd ⟨?_⟩;refine tk 18 ?_;refine tk 19 ?_;refine rd 20 λK hK=>?_;go_simp
   (go_at_call 106;refine IR (eW p q _ LV MM) λMh Ht=>?_;have o7:=o7.trans Ht;have PT:=I (Z.ext o7);have⟨G',SK,g1v,g2v,Ij,Jd,Ms,K2⟩:=PT.rats.at QC;simp only[bq,H4,E5]at Ij;obtain⟨rfl,rfl⟩:=Ij;rw[hI]at Ms K2;have⟨G2,hG2,adV,adK,ad3⟩:=PT.block (k:=E) QC;simp only[bq,H4,E5]at hG2;subst hG2;clear Jd)
   go_wp2_with fail;refine KO (o8 _ (B7.trans o7)) λo9=>?_;refine tk 21 ?_;have Lw:=I (((B7.trans o7).setCell (p:=⟨G,E*2,none⟩) MQ (.int .i64 (-p))).setCell (p:=⟨G,E*2+1,none⟩) MQ (.int .i64 q));refine rd 22 λK hK=>?_;go_simp;refine KO (o8 _ Lw) λo9=>?_;refine Pi j8 ?_ _;have Np:=I (show WV ((Mh.setCell ⟨G,E*2,none⟩ (.int .i64 (-p))).setCell ⟨G,E*2+1,none⟩ (.int .i64 q)) w (GI (some ⟨G,0,none⟩) N q1) (F6 t N jc (i+1))by
    rw[qv VD,<-Gf.o,gg,EJ.o];exact PT.set (k:=E) (by rw[kC];exact QC) (-p) q)
   go_wp2_with fail;refine Z5 ?_;exact⟨i+1,I (k8 HI.o),by go_num,Np,Lw⟩
  have Np:=I (show WV w3 w (GI a1 N q1) (F6 t N jc (i+1))by rw[tF VD];exact Z);clear Nj;exact ff
 have D7:m=i:=k8 HI.o;exact pv
end
