import Derived.Test.YthpahcbmpoknmaaGreatDoorPzG20
import Derived.Deep.CutBlock
set_option linter.all false
set_option maxHeartbeats 6000000
set_option maxRecDepth 100000
namespace Go.Proofs.YthpahcbmpoknmaaGreatDoor
open Ending renaming returned->atn
open List renaming length->Lp
open Obj renaming cells->SH
open Value renaming slice->FB,bool->ato,pointer->ats
open Go.Proofs.Tryz Go.RowKit
variable{σ:Prop}
section
def Lj{P Q:Prop}(k:ob Q)(h:ob Q->P:=by intro k;refine lp 0 ?_;refine ll 1 ?_;refine lp 2 ?_;refine ll 3 ?_;refine lp 4 ?_;refine lp 5 ?_;refine ll 6 ?_;exact k.1):P:=h k
def Qz(h:σ:=by first|with_reducible exact r7.trans Hm|with_reducible exact Fu.trans Hm|with_reducible exact(r7.trans (D4.alloc _ _)).trans Hm):σ:=h
def Zg(h:σ:=by first|with_reducible exact r7.trans Gr|with_reducible exact Fu.trans Gr|with_reducible exact(r7.trans (D4.alloc _ _)).trans Gr):σ:=h
def VG(h:σ:=by rw[HT.KN];exact Hn):σ:=h
def UM(h:σ:=by rw[<-Hy.o];omega):σ:=h
def Yw(h:σ:=by rw[OQ.o];omega):σ:=h
def Oq{P Q:Prop}(q:Q)(h:Q->P:=by intro q;go_roundg (gk-1);exact q;have:=MR.o;omega):P:=h q
variable{cost:o3}
theorem rO(x y:Int)(w:J):f9 308 #[Ge x y] w (U (D' (x,y) (0,1))):=by
 have qq0:=@cV;have qq1:=@eM;exact Uj
theorem rJ{w:J}{ra:o6}{rn rc:Nat}{ba:o6}{bn bc:Nat}{x:Int}{a:o6}{n cap:Nat}{costs:o3}(h:i8 w a n cap costs)(m:Nat)(hm:m<=n):
 f9 341 #[Qk ra rn rc ba bn bc x,FB a n cap,U m] w (U (bQ costs m)):=by
 have G:=D4.alloc w (dh ra rn rc ba bn bc x);have Ig:=I G;have H:=I (h.ext G);have⟨FQ,IH⟩:=h.ath;have HL:=I h.hlen;have hle:(m:Int)<=(n:Int):=O;have qq0:=@rO;exact xo
section
variable{w:J}{ra:o6}{rc:Nat}{ba:o6}{bc:Nat}{t:Tb}{n m:Nat}{T0:Nat->Nat->Rat}
theorem yQ(h:QW w ra m rc ba m bc t)(hT:Gy n m T0 t)(hn:n<=1000)(hm:m<=1000){c:Nat}(hc:c<n):
 f9 342 #[Qk ra m rc ba m bc (n:Int),U c] w (U (dN t (c:Int))):=by
 have B9:=D4.alloc w (dh ra m rc ba m bc (n:Int));have Ig:=I B9;have H:=I (h.ext B9);have G:=I (ah w (dh ra m rc ba m bc (n:Int)) _ rfl);have⟨FL,Hs⟩:=h.rows.ath;have⟨Gm,F0⟩:=h.basis.ath;have HT:=I hT;have HR:=I (show dN t (c:Int)=(cX t c m).1 by
  unfold dN;rw[i7 (by rw[hT.ok hn,hT.A',hT.len];simp[A8];omega),hT.len,eI])
 have HG:=I (nV H.o hT hn hm);have⟨u,hu⟩:=j7 (n+m);refine Fn (show u=t.A'.toNat+Lp t.rows by rw[hT.A',hT.len,eI];exact hu) hu (λw'=>bj (c:Int) 0 ((n:Int)+(m:Int)-1) w') λHU HUM Jj=>?_;rw[show A8 (c:Int) 0 ((n:Int)+(m:Int)-1)=true by unfold A8;simp;omega]at Jj;have Jl:=dc ((n:Int)+(m:Int));have Gn:=dc ((n:Int)+(m:Int)-1);clear h hT B9 hu;(try unfold f9);go_in
 go_upto_region 1 with rfl;have⟨W,hW⟩:=j7 (w.alloc (dh ra m rc ba m bc (n:Int)));rw[<-hW]at Ig H G HG;rw[<-hW];clear hW;have⟨p0,p1,p2⟩:=mc G.o;go_wp2_with rfl;refine qc HG λw1 aa=>?_;clear p0 p1 p2;have p0:=aw (aa.blk G);have p2:=aK (aa.blk G);have Mo:=I (ai.new (D4.refl w1) 0 0);go_wp2_with (go_at_call 90;refine(Jj _).mono ?_;rintro e w2 ⟨rfl,rfl⟩);clear Gn
 go_loopg [5,7] m (λgk bst ii wr=>∃(k:Nat) (st l1 l2:Int),e9 (gk+k=m)/\ii=U k/\bst=U st/\e9 (cX t c k=(st,(l1,l2)))/\e9 (ai w1 wr w1 l1 l2))
 ·exact⟨0,-1,0,0,I O,rfl,rfl,I rfl,Mo⟩
 obtain⟨k,st,l1,l2,HK,rfl,rfl,HL,HB⟩:=hrel;have X1:=I (aa.trans HB.ext);clear p0 p2;have p0:=aw (X1.blk G);by_cases hlt:k<m
 ·have⟨zb,Gd,za,zn,zc,Lf,Hl,A4⟩:=(H.ext X1).rows.at hlt;subst Lf;have Vn:zn=u+1:=by rw[<-A4.hlen,HUM.o];exact(HT.row k hlt).1
  have⟨NI,hrm⟩:=A4.ath;have hcz:c<zn:=l8 HUM.o;have⟨yb,F3,p,q,MT,Fw,JB,F7⟩:=A4.at hcz;subst MT;have Gi:e9 (t.at k c=(p,q)):=Fw;have hczI:=SW c zn;clear Fw A4 Vn;have⟨E,hE⟩:=j7 (wr.alloc (SH #[U p,U q] 80));have⟨gp,hgp⟩:=j7 wr.heap.size;have Ic:D4 wr E:=by rw[hE];exact ZL
  have RV:=I (show ai wr E gp p q by rw[hE,hgp];exact ai.new So _ _);have WE:=I (HB.grow Ic);go_upto_region 9 with rfl;rw[<-hE,<-hgp];clear hE hgp Ic p0 Hl JB F7;have XE:=I (aa.trans WE.ext);have p0:=aw (XE.blk G);have p2:=aK (XE.blk G);have⟨zb',WI,za',zn',zc',PE,Hl,Sy⟩:=(H.ext XE).rows.at hlt;obtain⟨rfl,rfl⟩:=er PE;clear PE;have hzn':zn'=u+1:=by rw[<-Sy.hlen,HUM.o];exact(HT.row k hlt).1
  have⟨ub,abX,p',q',hua,Zn,MB,Lh⟩:=Sy.at (show u<zn' by omega);subst hua;have⟨hrc',hrm'⟩:=Sy.ath;have HQQ:e9 (t.at k u=(p',q')):=Zn;have e0:=RV.c0;have e1:=RV.c1;obtain⟨d1,d2,OL,hdd⟩:∃x y ok,Hu (p',q') (p,q)=((x,y),ok):=⟨_,_,_,rfl⟩;have Mb:=I hdd;have hwu:IntKind.i64.wrap ((n:Int)+(m:Int))=(u:Int):=by have:=HUM.o;rw[j0];omega
  have Li:=aE u;have LP:(u:Int)<(zn':Int):=O;have MI:=aE k;have Ij:=SW k m;clear Zn hdd Sy hzn' Jl;go_upto_region 9 with rfl
  go_cut [9,10] (λsx so wx=>∃g:Nat,sx=ats (some (IM g 0))/\so=ato OL/\e9 (ai E wx g d1 d2))
  case first =>
   have r7:=D4.drew E;have Fu:D4 E (E.alloc (SH #[U 0,U 0] 80)).drew:=ZL.trans fl;have r8:=I (λ(w':J) (h:D4 E w')=>(an (h.o9 p0) (an (h.o9 p2) (an (h.o9 Hl) (an (h.o9 MB) (an (h.o9 Lh) (an (h.o9 e0) (an (h.o9 e1) h))))))))
   go_region_held3 (λw'=>w'.cell? (IM w 0)=some (FB (some (IM zb Gd)) m rc)/\w'.cell? (IM w 2)=some (U n)/\w'.cell? (IM zb (Gd+k))=some (FB (some (IM ub abX)) zn' zc')/\w'.cell? (IM ub (abX+u*2))=some (U p')/\w'.cell? (IM ub (abX+u*2+1))=some (U q')/\w'.cell? (IM gp 0)=some (U p)/\w'.cell? (IM gp 1)=some (U q)/\D4 E w')
    (exact yg)
    (first
      | ((with_reducible refine(yN p' q' p q _).mono ?_)
         rw[Mb.o];rintro e w5 ⟨rfl,B7⟩
         try with_reducible first|have A7:=ai.grow A7 B7|have A7:=ai.Fk B7|have A7:=ai.Fq r7 B7
         try(have Ko:=A7.c0;have Kn:=A7.c1;have L4:=A7.free)
         have r7:D4 E w5:=TH;have G7:=r7.size))
   all_goals(exact yx)
  obtain⟨g,rfl,rfl,FJ⟩:=hcut;clear hwu Li LP p0 p2 Hl MB Lh e0 e1;have Pv:=I (WE.grow FJ.ext);have HBPC:=I (RV.grow FJ.ext);have e0:=HBPC.c0;have e1:=HBPC.c1;have HS:=I (rO p q wc);have⟨sg,MY⟩:=Ok (D' (p,q) (0,1));rw[<-MY.o]at HS;by_cases ME:sg<=0
  ·have Hx:=I (show cX t c (k+1)=(st,(l1,l2))by
    show eK _ c (cX _ c k) k=_;rw[HL.o];exact yh Gi.o (by rw[<-MY.o];exact ME))
   go_wp2_with rfl;refine i6 HS λw3 hx=>?_;have F1:=I (Pv.grow hx);exact fo
  have Sb:=I ME;cases OL
  ·have Hx:=I (show cX t c (k+1)=(st,(l1,l2))by
    show eK _ c (cX _ c k) k=_;rw[HL.o];exact yi HU.o Gi.o HQQ.o TZ (by rw[Mb.o]))
   go_wp2_with rfl;refine i6 HS λw3 hx=>?_;have F1:=I (Pv.grow hx);exact fo
  go_wp2_with rfl;refine qc HS λw3 hx=>?_;have F1:=I (Pv.grow hx);have HD3:=I (FJ.grow hx);have g0:=HD3.c0;have g1':=HD3.c1;have b0:=F1.c0;have b1:=F1.c1;have Jz:=I (eM d1 d2 l1 l2 w3);have⟨cc,Qh⟩:=Ok (D' (d1,d2) (l1,l2));rw[<-Qh.o]at Jz;clear e0 e1;go_wp2_with rfl;refine qc Jz λw6 hx=>?_;have Ke:=I (F1.grow hx);have HG6:=I (HD3.grow hx);clear g0 g1' b0 b1;have X6:=I (aa.trans Ke.ext);have c1:=aJ (X6.blk G);have⟨eb,D6,Kl,GI⟩:=(H.ext X6).basis.at hlt;subst Kl;have⟨bi,Q6⟩:=Ok (t.basis[k]?.getD 0);rw[<-Q6.o]at GI;have IY:=I (lS t c k);have HUP:=I (λZ (GY:t.basis[st.toNat]?.getD 0=Z)=>show cX t c (k+1)=if LJ st cc bi Z=true then((k:Int),(d1,d2)) else(st,(l1,l2))by
   show eK _ c (cX _ c k) k=_;rw[HL.o,Qh.o];exact yj HU.o Gi.o HQQ.o TZ Mb.o Q6.symm GY)
  go_upto_region 12 with rfl
  go_cut [93] (λs82 wx=>∃Z:Int,s82=ato (LJ st cc bi Z)/\e9 (t.basis[st.toNat]?.getD 0=Z)/\e9 (D4 w6 wx))
  case first =>
   have r7:=D4.drew w6;by_cases hst:st<0
   ·have Pe:decide (st<0)=true:=bl hst;refine k6 (S:=(λw'=>w'.cell? (IM w 1)=some (FB (some (IM eb D6)) m bc)/\w'.cell? (IM eb (D6+k))=some (U bi)/\D4 w6 w')) k8 ?_ (λr9=>?_)
    ·exact⟨r7.o9 c1,r7.o9 GI,r7⟩
    refine ta ⟨?_⟩;refine C2 ⟨?_⟩;refine ST k8 ?_ _;go_wp2;go_meet;exact⟨_,by unfold LJ;rw[Pe];rfl,I rfl,I r7⟩
   have Pe:decide (st<0)=false:=RK O;obtain⟨sn,rfl⟩:∃sn:Nat,st=sn:=⟨st.toNat,by omega⟩;have hsn:sn<m:=by have:=IY.o;rw[HL.o]at this;simp only at this;omega
   have⟨fb,PV,hfa,Re⟩:=(H.ext X6).basis.at hsn;obtain⟨rfl,rfl⟩:=er hfa;clear hfa;have⟨Z,GY⟩:=j7 (t.basis[sn]?.getD 0);have Hy:=I (show t.basis[Int.toNat (sn:Int)]?.getD 0=Z by rw[eI,GY]);rw[<-GY]at Re;have hs0':=aE sn;have hs1':=SW sn m;clear GY;by_cases hcc:cc<0
   ·have RA:decide (cc<0)=true:=bl hcc;refine k6 (S:=(λw'=>w'.cell? (IM w 1)=some (FB (some (IM eb D6)) m bc)/\w'.cell? (IM eb (D6+k))=some (U bi)/\D4 w6 w')) k8 ?_ (λr9=>?_)
    ·exact⟨r7.o9 c1,r7.o9 GI,r7⟩
    refine ta ⟨?_⟩;refine C2 ⟨?_⟩;refine ST k8 ?_ _;go_wp2;go_meet;exact⟨Z,by unfold LJ;rw[Pe,RA];rfl,Hy,I r7⟩
   have RA:decide (cc<0)=false:=RK O;by_cases Fo:cc=0
   ·subst Fo;refine k6 (S:=(λw'=>w'.cell? (IM w 1)=some (FB (some (IM eb D6)) m bc)/\w'.cell? (IM eb (D6+k))=some (U bi)/\w'.cell? (IM eb (D6+sn))=some (U Z)/\D4 w6 w')) k8 ?_ (λr9=>?_)
    ·exact⟨r7.o9 c1,r7.o9 GI,r7.o9 Re,r7⟩
    refine ta ⟨?_⟩;refine C2 ⟨?_⟩;refine ST k8 ?_ _;go_wp2;go_meet;exact⟨Z,by unfold LJ;rw[Pe];rfl,Hy,I r7⟩
   have VC:(cc == 0)=false:=t8;refine k6 (S:=(λw'=>w'.cell? (IM w 1)=some (FB (some (IM eb D6)) m bc)/\w'.cell? (IM eb (D6+k))=some (U bi)/\D4 w6 w')) k8 ?_ (λr9=>?_)
   ·exact⟨r7.o9 c1,r7.o9 GI,r7⟩
   refine ta ⟨?_⟩;refine C2 ⟨?_⟩;refine ST k8 ?_ _;go_wp2;go_meet;exact⟨Z,by unfold LJ;rw[Pe,RA,RK Fo];rfl,Hy,I r7⟩
  obtain⟨Z,rfl,Hy,RL⟩:=hcut;refine Fn (Ke.grow RL) (HG6.grow RL) (HUP Z Hy) λHc Uv HU2=>?_;clear c1 GI;cases Y6:LJ st cc bi Z
  ·have Hx:=I (show cX t c (k+1)=(st,(l1,l2))by rw[HU2.o,Y6];rfl);exact Q1
  have Hx:=I (show cX t c (k+1)=((k:Int),(d1,d2))by rw[HU2.o,Y6];rfl);have g0:=Uv.c0;have g1':=Uv.c1;have b0:=Hc.c0;have b1:=Hc.c1;have bf:=Hc.free;have Pw:=I (Hc.put d1 d2);exact Zu
 have E':m=k:=l8 HK.o;subst E';have HF:=I (show dN t (c:Int)=st by rw[HR.o,HL.o]);have qq0:=@au;exact Uy
end
section
variable{w:J}{ra:o6}{rc:Nat}{ba:o6}{bc:Nat}{t:Tb}{n m:Nat}{T0:Nat->Nat->Rat}
theorem JL{t:Tb}{cost r:o3}{k:Nat}(h:dX t cost k=some r):dX t cost (k+1)=Iw r (D2 (cost[(t.basis[k]?.getD 0).toNat]?.getD (0,0))) (t.row k):=by
 simp only[dX];rw[h];rfl
def Rj(h:σ:=by
 go_wp2;go_ret2;exact⟨⟨_,gH V1,by rw[HN.o];exact ZM.made _ _ (l8 B4.size)⟩,B4.trans (HX.trans ZL)⟩
 ):σ:=h
theorem EK(h:QW w ra m rc ba m bc t)(hT:Gy n m T0 t)(hn:n<=1000)(hm:m<=1000){ka:o6}{kn kc:Nat}{cost:o3}(hk:i8 w ka kn kc cost)(GF:kn=n+m)(hv:Hf cost=true):
 Calls prog 340 #[Qk ra m rc ba m bc (n:Int),FB ka kn kc] w λe w'=>(∃v,e=atn (.tuple #[v,ato (dE t cost).isSome])/\ZM w' w v ((dE t cost).getD []))/\D4 w w':=by
 have B9:=D4.alloc w (dh ra m rc ba m bc (n:Int));have B4:=I B9;have H:=I (h.ext B9);have G:=I (ah w (dh ra m rc ba m bc (n:Int)) _ rfl);have KW:=I (hk.ext B9);have⟨FL,Hs⟩:=h.rows.ath;have⟨Gm,F0⟩:=h.basis.ath;have⟨Ij,Z⟩:=hk.ath;have HT:=I hT;have Va:=I hk.hlen;have Hk:=I GF;have HE:=I (show dE t cost=dX t cost m by
  unfold dE sp;rw[i7 (by rw[hT.ok hn,hT.A',hT.len,hk.hlen,hv,GF];simp),hT.len])
 have HVL:=I (λj (hj:j<kn)=>show A5 (cost[j]?.getD (0,0))=true by
  have:j<Lp cost:=by rw[hk.hlen];exact hj
  rw[In this];exact(fp.1 hv) _ (cP this))
 have HG:=I (nV H.o hT hn hm);have Rm:=I hv;have Vr:(kn:Int)=(n:Int)+(m:Int):=O;have Jl:=qj ((n:Int)+(m:Int)) (kn:Int);have Rb:((kn:Int) != (kn:Int))=false:=j9;clear h hT B9 hk GF hv Vr;go_in
 go_upto_region 1 with rfl;have⟨W,hW⟩:=j7 (w.alloc (dh ra m rc ba m bc (n:Int)));rw[<-hW]at B4 H G HG KW;rw[<-hW];clear hW;have⟨p0,p1,p2⟩:=mc G.o;go_wp2_with rfl;refine qc HG λw1 X1=>?_;clear p0 p1 p2;have p0:=aw (X1.blk G);have p2:=aK (X1.blk G);have Q4:=I (js (KW.ext X1) (l8 Hk.o));go_wp2_with rfl;refine hF Q4 λw2 v2 Is hx=>?_;obtain⟨a2,n2,c2,rfl,Jb⟩:=Is.var;have X2:=I (X1.trans hx);have FM:=I Is;have J2:=X1.size;have Zj:=hx.size;clear Is p0 p2 Jl;go_wp2_with rfl;refine qc (cV 0 _) λw3 hx=>?_;have X3:=I (X2.trans hx);have C8:=I (FM.ext hx);have LR:=hx.size
 go_wp2_with (first
  | (at_builtin;refine cH rfl _ _ rfl w1 (FB a2 n2 c2) _ rfl (C8.ext ZL) _ 1 _ [(0,1)] rfl (z6 j9) (by rw[Va.o];have:=Hk.o;omega) t8 ?_;intro v5 w5 ho hg r';have X5:=I (aj (X3.trans ZL) hg (λj hj=>bR J2 (C8.lt j hj).1));obtain⟨a5,n5,p5,rfl,JU⟩:=ho.var;have Fj:=I ho;clear ho hg r'))
 have WH:=I (kA (KW.ext X5));rw[Rm.o]at WH;refine qc WH λw6 hx=>?_;have X6:=I (X5.trans hx);have Gp:=I (Fj.ext hx);go_wp2
 go_loopg [6,7,8] m (λgk oo fl ii wr=>∃(k:Nat) (f:Bool) (a1:o6) (n1 p1:Nat) (r:o3),e9 (gk+k=m)/\ii=U k/\oo=FB a1 n1 p1/\fl=ato f/\e9 (dX t cost k=if f=true then some r else none)/\e9 (ZM wr W (FB a1 n1 p1) r)/\e9 (D4 W wr))
 ·exact⟨0,true,_,_,_,_,I O,rfl,rfl,rfl,I rfl,I (Gp.mono J2),X6⟩
 obtain⟨k,f,a1,n1,q1,r,HK,rfl,rfl,rfl,HC,HO,HX⟩:=hrel;have hsr:=HX.size;have p0:=aw (HX.blk G);by_cases hlt:k<m
 ·cases f
  ·have HN:=I (show dE t cost=none by rw[HE.o];exact si HC.o O);exact Rj
  have Sf:e9 (dX t cost k=some r):=HC;have p1:=aJ (HX.blk G);have⟨zb,Gd,ya,yn,yc,Lf,Hl,A4⟩:=(H.ext HX).rows.at hlt;subst Lf;have⟨eb,D6,Kl,GI⟩:=(H.ext HX).basis.at hlt;subst Kl;obtain⟨b,hb⟩:∃b:Nat,t.basis[k]?.getD 0=b:=by
   have:=HT.bas _ (cP (l:=t.basis) (n:=k) da);exact⟨(t.basis[k]?.getD 0).toNat,by rw[In da];simp;omega⟩
  have PN:b<kn:=by
   have h1:=HT.bas _ (cP (l:=t.basis) (n:=k) da);rw[In da,NE]at hb;rw[hb]at h1;have:=Hk.o;omega
  rw[hb]at GI;have⟨cb,No,c1,c2',hca,hcc,Fo,FQ⟩:=(KW.ext HX).at PN;subst hca;have Kw:=aV (HVL b PN);rw[hcc]at Kw;have hw2:IntKind.i64.wrap (-c1)=-c1:=by rw[j0];simp only at Kw;omega
  have HCG:=I (show dX t cost (k+1)=Iw r (-c1,c2') (t.row k)by rw[JL Sf.o,hb,eI,hcc];rfl);have HCL:=I (oJ Sf);have Ht:n1<=1048576:=by have h1:=HO.rats.hlen;rw[HCL.o,Va.o]at h1;have:=Hk.o;omega
  have HSC:=I (λ(wz:J) (hz:D4 wr wz)=>qC (k1:=-c1) (k2:=c2') (HO.ext hz).rats (show i8 wz ya yn yc (t.row k)from A4.ext hz) Ht);have⟨sv,Od⟩:=j7 (Iw r (-c1,c2') (t.row k));have GG:=I (show dX t cost (k+1)=sv by rw[HCG.o,Od]);simp only[<-Od]at HSC;have MI:=aE k;have hk1':=SW k m;have Ua:=aE b;have T':=SW b kn;clear A4 Kw hcc Od hb;go_upto_region 8 with rfl;have af':=D4.drew wr;have Z:=af';clear af';have r8:=I λw' (h:D4 wr w')=>TX (h.o9 p0) (TX (h.o9 p1) (TX (h.o9 Hl) (TX (h.o9 GI) (TX (h.o9 Fo) (TX (h.o9 FQ) h)))));refine kp r8 Z λr9=>?_
  refine ta ⟨?_⟩;refine C2 ⟨?_⟩;refine RQ ⟨?_⟩;refine rd 26 λK hK=>?_;go_simp
  (go_at_call 365;refine PP (HSC _ Z) λw3 v3 Gw C0=>?_;have Wb:=Z.size;have Z:=Z.trans C0;obtain⟨a3,n3,c3,rfl,NB⟩:=Gw.var)
  go_wp2_with rfl;refine KO (r8 _ Z) λr9=>?_;refine tk 27 ?_;refine tk 28 ?_;refine tk 29 ?_;refine tk 30 ?_;refine tk 31 ?_;refine ST k8 ?_ _;have C7:=I (HX.trans Z);have Gh:=I (Gw.mono (bR hsr Wb));clear Z Gw p0 p1 Hl GI Fo FQ hw2;go_wp2_with rfl;refine dk ?_;exact⟨k+1,sv.isSome,a3,n3,c3,sv.getD [],I (l8 HK.o),by go_num,rfl,rfl,I (by rw[GG.o];cases sv<;>rfl),Gh,C7⟩
 have JS:m=k:=l8 HK.o;subst JS;cases f
 ·have HN:=I (show dE t cost=none by rw[HE.o];exact HC);exact Rj
 have HN:=I (show dE t cost=some r by rw[HE.o];exact HC);go_wp2;go_ret2;exact⟨⟨_,gH V1,by rw[HN.o];exact HO.mono (l8 B4.size)⟩,B4.trans HX.o⟩
def rk(h:σ:=by
 exact⟨0,_,_,_,I O,rfl,rfl,aho,X1⟩
 ):σ:=h
def Jg(h:σ:=by
 subst Nh;go_wp2;go_ret;exact⟨⟨_,rfl,by rw[HSO.o];exact Gh.mono O⟩,B4.trans Io.o⟩
 ):σ:=h
theorem yT(h:QW w ra m rc ba m bc t)(hT:Gy n m T0 t)(hn:n<=1000)(hm:m<=1000):
 Calls prog 311 #[Qk ra m rc ba m bc (n:Int)] w λe w'=>(∃v,e=atn v/\ZM w' w v (H8 t))/\D4 w w':=by
 have B9:=D4.alloc w (dh ra m rc ba m bc (n:Int));refine Fn B9 (h.ext B9) (ah w (dh ra m rc ba m bc (n:Int)) _ rfl) λB4 H K=>?_;have⟨W,hW⟩:=j7 (w.alloc (dh ra m rc ba m bc (n:Int)));have Oc:W.heap.size=w.heap.size+1:=by rw[hW];simp
 have J':=I Oc;have⟨FL,Hs⟩:=h.rows.ath;have⟨Gm,F0⟩:=h.basis.ath;refine y5 hT (show H8 t=IQ t m by unfold H8;rw[i7 (hT.ok hn),hT.len]) (show IQ t 0=List.replicate (n+m) (0,1)by simp only[IQ];rw[hT.A',hT.len];rfl) (λk=>show(IQ t k).length=n+m by rw[ls,hT.A',hT.len];simp) (ZM.made W (w+1) O) (D4.alloc W (SH #[] 80)) λHT HSO Sb Hi HO X0=>?_;rw[<-hW]at B4 H K;rw[Oc]at HO;have HG:=I (nV (H.ext X0) hT hn hm);have Jl:=dc ((n:Int)+(m:Int));clear h hT B9 Oc;go_in
 go_upto_region 1 with rfl;rw[<-hW];clear hW;have Oc:=J'.o;have⟨p0,p1,p2⟩:=mc (X0.blk K);go_wp2_with rfl;refine qc HG λw1 hx=>?_;have X1:=I (X0.trans hx);have aho:=I (HO.ext hx);clear p0 p1 p2;go_wp2
 go_loopg [3,4] (n+m) (λgk oo ii wr=>∃(k:Nat) (a1:o6) (Z p1:Nat),e9 (gk+k=n+m)/\ii=U k/\oo=FB a1 Z p1/\e9 (ZM wr (w+1) (FB a1 Z p1) (List.replicate k (0,1)))/\e9 (D4 W wr))
 ·exact rk
 rename Nat=>g1;rename J=>A1;obtain⟨k,a1,Z,q1,HK,rfl,rfl,HO1,HX⟩:=hrel;have p0:=aw (HX.blk K);have p2:=aK (HX.blk K);have hsz:=HX.size;by_cases hlt:k<n+m
 ·have Gq:=I (show(List.replicate k ((0:Int),(1:Int))).length=k by simp);have acY:(k:Int)<(n:Int)+(m:Int):=by omega
  go_wp2_with rfl;refine qc (cV 0 _) λw3 hx=>?_;have X3:=I (HX.trans hx);have C8:=I (HO1.ext hx);have LR:=X3.size;clear p0 p2
  go_wp2_with (first
   | (at_builtin;refine Qt 0 1 C8 X3 E9 λa5 n5 p5 w5 JU X5 Fj=>?_))
  refine gy ?_;exact⟨k+1,a5,n5,p5,I (l8 HK.o),by go_num,rfl,I Jh,X5⟩
 have JS:k=n+m:=l8 HK.o;have acY:¬(k:Int)<(n:Int)+(m:Int):=O;have FM:=I (show ZM A1 (w+1) (FB a1 Z q1) (IQ t 0)by rw[Sb.o,<-JS];exact HO1);clear JS;go_wp2_with rfl;clear p2 acY
 go_loopg [5] m (λgk ii wr=>∃(k:Nat),e9 (gk+k=m)/\ii=U k/\e9 (ZM wr (w+1) (FB a1 Z q1) (IQ t k))/\e9 (D4 W wr))
 ·exact bk
 obtain⟨j,HJ,rfl,Gh,Io⟩:=hrel;clear p0;have p0:=aw (Io.blk K);by_cases Hn:j<m
 ·have p1:=aJ (Io.blk K);have p2:=aK (Io.blk K);have⟨zb,Gd,ya,yn,yc,Lf,Hl,A4⟩:=(H.ext Io).rows.at Hn;subst Lf;have⟨u,hu⟩:=j7 (n+m);have Nb:yn=u+1:=by rw[<-A4.hlen,hu];exact(HT.row j Hn).1
  have HYN:=I Nb;have⟨F7,Mz⟩:=A4.ath;have hub:u<=200000:=O;have⟨yb,F3,p,q,MT,Fw,Sq,Sp⟩:=A4.at (show u<yn by omega);subst MT;have Gi:e9 (t.at j u=(p,q)):=Fw;obtain⟨b,hb⟩:∃b:Nat,t.basis[j]?.getD 0=b:=by
   have:=HT.bas _ (cP (l:=t.basis) (n:=j) VG);exact⟨(t.basis[j]?.getD 0).toNat,by rw[In VG];simp;omega⟩
  have LZ:b<n+m:=by
   have h1:=HT.bas _ (cP (l:=t.basis) (n:=j) VG);rw[In VG,NE]at hb;rw[hb]at h1;omega
  have HB:=I hb;have⟨eb,D6,Kl,GI⟩:=(H.ext Io).basis.at Hn;subst Kl;rw[hb]at GI;have Ht:Z=u:=by have:=Gh.rats.hlen;rw[Hi.o]at this;omega
  subst Ht;have⟨G,hG,OH,NO,VH⟩:=Gh.block (k:=b) O;subst hG;have⟨G',UW,g1v,g2v,JL,KF,Oh,MU⟩:=Gh.rats.at (show b<Z by omega);obtain⟨rfl,rfl⟩:=er JL;clear JL;rw[fs]at Oh MU;have hwu:=qj ((n:Int)+(m:Int)) (Z:Int);have LP:(Z:Int)<(yn:Int):=l8 HYN.o;have Li:=aE Z;have Ua:=aE b;have T':=SW b Z;have hj0:=aE j;have hj1:=SW j m;have HU:=I hu;clear Fw A4 Nb hb KF hu Jl;go_upto_region 11 with rfl
  go_still_tail 20,k8
  have Fj:=I (show ZM ((wr.drew.setCell (IM G (b*2)) (U p)).setCell (IM G (b*2+1)) (U q)) (w+1) (GT G Z q1) (IQ t (j+1))by
   have h1:=(Gh.ext (D4.drew wr)).set (k:=b) (by rw[Hi.o,<-HU.o];omega) p q;have h2:IQ t (j+1)=(IQ t j).set b (p,q):=by
    simp only[IQ];rw[HB.o,eI,HT.A',HT.len,eI,<-HU.o,Gi.o]
   rw[h2];exact h1)
  have hGW:W.heap.size<=G:=l8 J'.o;have Hh:=I (((Io.trans (D4.drew wr)).setCell (p:=(IM G (b*2))) hGW (U p)).setCell (p:=(IM G (b*2+1))) hGW (U q));clear hwu;exact Uc
 have Nh:m=j:=l8 HJ.o;exact Jg
end
section
variable{w:J}{a:o6}{na ca:Nat}{b:o6}{nb cb:Nat}{c:o6}{nc cc:Nat}{A:o4}{B:o7}{C:o3}
theorem uI(h:L6 w a na ca b nb cb c nc cc A B C)(ok:FT A B C=true):
 Calls prog 257 #[JI a na ca b nb cb c nc cc] w λe w'=>(∃va vb vs,e=atn (.agg #[va,vb,U nc])/\GR w' w va vb vs (cG A B nc))/\D4 w w':=by
 have⟨r1,r2,r3,r4,r5,r6⟩:=dL h ok;subst r3;have B9:=(D4.alloc w (bT a nb ca b nb cb c nc cc)).trans (D4.alloc _ (SH #[d9,d9,U 0] 216));have⟨W,hW⟩:=j7 ((w.alloc (bT a nb ca b nb cb c nc cc)).alloc (SH #[d9,d9,U 0] 216));rw[<-hW]at B9;have B4:=I B9;have H:=I (h.ext B9);have HV:=I (eY H);rw[ok]at HV;refine Fn (show W.heap[w.heap.size+1]?=some (SH #[d9,d9,U 0] 216 (0,0))by rw[hW];exact LE j9) (show W.heap[w.heap.size]?=some (SH #[FB a nb ca,FB b nb cb,FB c nc cc] 124 (0,0))by rw[hW,wZ j9];exact LE rfl) (show W.heap.size=w.heap.size+1+1 by rw[hW];simp) λGj HTB J'=>?_;have⟨Wn,QQ⟩:=h.a.ath;have⟨Gm,F0⟩:=h.b.ath;have⟨FQ,IH⟩:=h.c.ath;refine kv h.a.hlen h.b.hlen r4 r5 r6 λJc Hj Kd Lv Ri=>?_;clear h B9 ok r4 r5 r6;go_in
 go_upto_region 1 with rfl;rw[<-hW];clear hW;have⟨G,p1,p2⟩:=mc HTB.o;go_wp2_with rfl;refine qc HV λw1 X1=>?_;have H1:=I (H.ext X1);clear G p1 p2;refine Fn (aw (X1.blk HTB)) (aJ (X1.blk HTB)) (aK (X1.blk HTB)) λP0 P1 P2=>?_;have p2:=P2.o;have J2:w.heap.size+1+1<=w1.heap.size:=by have:=X1.size;have:=J'.o;omega
 have⟨E,hE⟩:=j7 (w1.alloc (SH #[d9,d9,U nc] 216));have XE:=I (show D4 w1 E by rw[hE];exact ZL)
 have SN:=I (show Lr E w1 w1 d9 (d9) (nc:Int) [] [] []by
  rw[hE];exact⟨LE rfl,m9 _,T9 _ _ _ 1,ez.nil _ _,y4⟩)
 go_upto_region 4 with rfl;rw[<-hE];clear hE p2;have G:=XE.o9 P0.o;go_wp2
 go_loopg [4] nb (λgk ii wr=>∃(k:Nat) (va vb:atY) (vs:List atY),e9 (gk+k=nb)/\ii=U k/\e9 (Lr wr w1 w1 va vb (nc:Int) vs ((List.range k).map (dH A B)) ((List.range k).map λi=>((nc+i:Nat):Int)))/\e9 (D4 w1 wr))
 ·exact⟨0,_,_,_,I O,rfl,SN,XE⟩
 rename Nat=>g1;rename J=>A1;obtain⟨k,va,vb,vs,HK,rfl,T,HX⟩:=hrel;clear G;have G:=HX.o9 P0.o;have hsr:=HX.size;by_cases hlt:k<nb
 ·have⟨zb,Gd,ya,yn,yc,Lf,Hl,A4⟩:=(H1.ext HX).a.at hlt;subst Lf;obtain rfl:yn=nc:=by rw[<-A4.hlen];exact Kd.o k hlt
  have⟨F7,Mz⟩:=A4.ath;have⟨eb,D6,Kl,GI⟩:=H1.b.at hlt;subst Kl;have⟨bk,PN⟩:=j7 (B[k]?.getD 0);rw[<-PN]at GI;refine Fn GI Hl PN λRT KS HBK=>?_;have GY:-5000<=bk/\bk<=5000:=by
   rw[PN,In (by rw[Hj.o];exact hlt)];exact Ri.o _ (cP _)
  obtain⟨hbb0,hbb1⟩:=GY;have⟨sd,Te⟩:=j7 (IW bk);have HSD:=I Te;have Zg:(bk<0/\sd=-1)∨(¬bk<0/\sd=1):=by rw[Te];exact ip bk
  have KD:-1<=sd/\sd<=1:=O;obtain⟨hsb0,Zh⟩:=KD;have p1:=HX.o9 P1.o;have LX:=HX.o9 RT.o;have Ja:=I A4;clear A4 PN Te GI;go_upto_if 29 with rfl
  go_cut [5] (λs6 wx=>s6=U sd/\A1=wx)
  case first =>
   exact Rk
  obtain⟨rfl,rfl⟩:=hcut;clear Zg;have HO1:=I (ZM.made A1 A1 (m9 _));go_wp2
  go_loopg [6,7] yn (λgk oo ii wr=>∃(j:Nat) (a1:o6) (n1 q1:Nat),e9 (gk+j=yn)/\ii=U j/\oo=FB a1 n1 q1/\e9 (ZM wr A1 (FB a1 n1 q1) (((A[k]?.getD []).take j).map λx=>(sd*x,(1:Int))))/\e9 (D4 A1 wr))
  ·exact I1
  rename Nat=>g2;rename J=>wr2;obtain⟨j,a1,n1,q1,HJ,rfl,rfl,aa,A6⟩:=hrel;clear G p1 LX Hl;have p2:=(HX.trans A6).o9 P2.o;by_cases Hn:j<yn
  ·have G:=(HX.trans A6).o9 P0.o;have Hl:=A6.o9 KS.o;have qq0:=@cV;exact KX
  have JK:yn=j:=l8 HJ.o;have GJ:=I (show ZM wr2 A1 (FB a1 n1 q1) ((A[k]?.getD []).map (λx=>(sd*x,(1:Int))))by
   have h1:=aa.o;rw[aP (by rw[Kd.o k hlt];omega)]at h1;exact h1)
  have Lw:=I (show((A[k]?.getD []).map (λx=>(sd*x,(1:Int)))).length=yn by rw[b7];exact Kd.o k hlt);have G:=(HX.trans A6).o9 P0.o;clear JK;go_wp2
  go_loopg [6,8] nb (λgk oo ii wr=>∃(i:Nat) (a1:o6) (n1 q1:Nat),e9 (gk+i=nb)/\ii=U i/\oo=FB a1 n1 q1/\e9 (ZM wr A1 (FB a1 n1 q1) ((A[k]?.getD []).map (λx=>(sd*x,(1:Int)))++(List.range i).map λi=>if i=k then((1:Int),(1:Int)) else(0,1)))/\e9 (D4 A1 wr))
  ·exact T6
  obtain⟨i,a3,n3,q3,HI,rfl,rfl,C8,C5⟩:=hrel;clear G p2;have G:=(HX.trans C5).o9 P0.o;by_cases K2:i<nb
  ·have Gq:=I (show((A[k]?.getD []).map (λx=>(sd*x,(1:Int)))++(List.range i).map λi=>if i=k then((1:Int),(1:Int)) else(0,1)).length=yn+i by rw[ar,Lw.o];simp);obtain⟨un,Nv⟩:∃u:Int,u=if i=k then 1 else 0:=⟨_,rfl⟩
   have H7:=I (show(List.range i).map (λi=>if i=k then((1:Int),(1:Int)) else(0,1))++[(un,1)]=(List.range (i+1)).map λi=>if i=k then((1:Int),(1:Int)) else(0,1)by
    rw[<-dq,Nv];congr 2;split<;>rfl)
   have Pd:((i:Int) == (k:Int))=decide (i=k):=by by_cases h:i=k<;>simp[h]<;>omega
   have HUN:=I (show Fv (decide (i=k))=un by rw[Nv];by_cases h:i=k<;>simp[h,Fv]);have Qj:=I (λw'=>fN (decide (i=k)) w');rw[HUN.o]at Qj;clear Nv;go_wp2_with (go_at_call 249;refine(Qj _).mono ?_;rintro e w2 ⟨rfl,rfl⟩);clear Pd;refine qc (cV un _) λw3 hx=>?_;have X3:=I (C5.trans hx);have Gh:=I (C8.ext hx);have LR:=X3.size
   go_wp2_with (first
    | (at_builtin;refine Qt un 1 Gh X3 E9 λa5 n5 p5 w5 JU X5 Fj=>?_))
   refine Y6 ?_;exact⟨i+1,a5,n5,p5,I (l8 HI.o),by go_num,rfl,I Pv,X5⟩
  have FA:i=nb:=l8 HI.o;subst FA;have⟨z2,KZ⟩:=j7 (sd*bk);have Qr:sd*bk=bk∨sd*bk=-bk∨sd*bk=0:=by
   exact R2
  have hwr:IntKind.i64.wrap (sd*bk)=z2:=by
   rw[j0,KZ];rcases Qr with h1|h1|h1<;>rw[h1]<;>omega
  have Lu:=I (show((A[k]?.getD []).map (λx=>(sd*x,(1:Int)))++(List.range i).map λi=>if i=k then((1:Int),(1:Int)) else(0,1))++[(z2,1)]=dH A B k by
   unfold dH;rw[<-HBK.o,<-HSD.o,KZ,Jc.o,zz])
  have Gq:=I (show((A[k]?.getD []).map (λx=>(sd*x,(1:Int)))++(List.range i).map λi=>if i=k then((1:Int),(1:Int)) else(0,1)).length=yn+i by rw[ar,Lw.o];simp);have HVL:=I (show Lp vs=k by rw[T.rows.len];simp);have t0:=aw T.box;have p1:=HX.o9 P1.o;have LX:=HX.o9 RT.o;have MI:=aE k;have Ij:=SW k i;clear KZ Qr;go_upto_region 19 with rfl;have Lm:=D4.drew wr;have r7:D4 A1 wr.drew:=C5.trans Lm;have r8:=I λw' (h:D4 A1 w')=>TX (h.o9 t0) (TX (h.o9 p1) (TX (h.o9 LX) (HX.trans h)));refine cj (M:=[16]) (S:=λw'=>w'.cell? (IM w1 0)=some va/\w'.cell? (IM w 1)=some (FB (some (IM eb D6)) i cb)/\w'.cell? (IM eb (D6+k))=some (U bk)/\D4 w1 w') k8 ?_;have r9:=r8.o _ r7;refine ly ⟨?_⟩;refine lp 4 ?_;refine ll 5 ?_;refine lp 6 ?_;refine lp 7 ?_;refine ll 8 ?_;refine lp 9 ?_;refine Im 10 λK hK=>?_
  go_simp;go_at_call 171;refine i6 (cV _ _) λw5 F'=>?_;have Lm:D4 wr w5:=Lm.trans F';have r7:D4 A1 w5:=r7.trans F';have MD:=r7.size;go_wp2_with rfl;refine KL (r8 _ r7) λr9=>?_
  refine Im 11 λK hK=>?_;go_simp;refine hK.out _ _ (λ_=>r8.o _ (r7.trans ZL)) ?_;clear hK K
  try simp only[Act.put,sA,sB,sC]
  refine Im 12 λK hK=>?_;refine dw _ _ l7 A1 (FB a3 n3 q3) _ l7 ((C8.ext Lm).ext ZL) _ 1 _ [(z2,1)] l7 (z6 rfl) E9 t8 ?_;intro v6 w6 ho hg r';obtain⟨a6,n6,q6,rfl,Jy⟩:=ho.var;have Gp:=I ho;have LA:D4 A1 w6:=aj (r7.trans ZL) hg (λj hj=>(C8.lt j hj).1);have hs6:=LA.size;clear ho hg r';refine KL (r8 _ LA) λr9=>?_;refine Im 13 λK hK=>?_;go_simp;refine hK.out _ _ (λ_=>r8.o _ (LA.trans ZL)) ?_;clear hK K
  try simp only[Act.put,sA,sB,sC]
  refine Im 14 λK hK=>?_;refine gh _ _ l7 w1 va vs l7 ((T.a.ext LA).ext ZL) _ _ 1 l7 E5 rfl YY t8 ?_;intro v7 w7 ho hg r';obtain⟨a7,n7,q7,rfl,Ma⟩:=ho.var;have Kb:=I ho;have Uv:=I hg;have Gu:=T.QU (LA.trans ZL) hg;have Tm:=aw Gu;have cf7:=ee Gu;have Pk:D4 w1 w7:=aj ((HX.trans LA).trans ZL) hg (λj hj=>(T.a.lt j hj).1);clear ho hg r' Gu;refine KL (eN Tm (eN (Pk.o9 P1) (eN (Pk.o9 RT) Pk))) λr9=>?_;refine lp 15 ?_;refine Ql 16 ?_;refine cU k8 ?_ _;have Qa:=I (T.M8 (LA.trans ZL) (Gp.ext ZL) hsr Uv.o Kb);have MX:=I (Pk.setCell (p:=(IM w1 0)) (m9 _) (FB a7 n7 q7));have⟨W8,PT⟩:=j7 (w7.setCell (IM w1 0) (FB a7 n7 q7));rw[<-PT]at Qa MX;go_upto_region 20 with rfl;rw[<-PT];clear PT Tm cf7 r9;have b1:=aJ Qa.box;have p2:=D4.o9 MX.o P2.o;exact NL
 have qq0:=@results257;exact Rn
end
section
variable{w:J}{ra:o6}{rc:Nat}{ba:o6}{bc:Nat}{t:Tb}{n m:Nat}{T0:Nat->Nat->Rat}
theorem Xo(h:QW w ra m rc ba m bc t)(hm:m<=1000)(J5:t.A'=n)(Nf:∀i,i<m->Lp (t.row i)<=1048576):
 Calls prog 383 #[Qk ra m rc ba m bc (n:Int)] w λe w'=>(∃va vb vs,e=atn (.agg #[va,vb,U n])/\GR w' w va vb vs t)/\D4 w w':=by
 have B9:=(D4.alloc w (dh ra m rc ba m bc (n:Int))).trans (D4.alloc _ (SH #[d9,d9,U 0] 216));have⟨W,hW⟩:=j7 ((w.alloc (dh ra m rc ba m bc (n:Int))).alloc (SH #[d9,d9,U 0] 216));rw[<-hW]at B9;have B4:=I B9;have H:=I (h.ext B9);have FL:=h.rows.y7;have Hs:=h.rows.y8;refine ZH (show Lp t.rows=m from h.rows.hlen) (show Lp t.basis=m from h.basis.hlen) J5 Nf (show W.heap[w.heap.size]?=some (SH #[FB ra m rc,FB ba m bc,U n] 216 (0,0))by rw[hW,wZ j9];exact LE rfl) (show W.heap[w.heap.size+1]?=some (SH #[d9,d9,U 0] 216 (0,0))by rw[hW];exact LE j9) (show W.heap.size=w.heap.size+1+1 by rw[hW];simp) λGS Hj Jz GN HTB Gj J'=>?_;have p1:=aJ HTB.o;have p2:=aK HTB.o;clear h B9 Nf J5;go_in
 go_upto_region 1 with rfl;rw[<-hW];clear hW
 go_cut [3] (λs wx=>∃(g:Nat) (a3:o6) (n3 c3:Nat),s=ats (some (IM g 0))/\e9 (Lr wx W g d9 (FB a3 n3 c3) (n:Int) [] [] t.basis)/\e9 (D4 W wx))
 case first =>
  have r7:=D4.drew W;have r8:=I (λ(w':J) (h:D4 W w')=>(⟨h.o9 p1,h.o9 p2,h⟩:(λw'=>w'.cell? (IM w 1)=some (FB ba m bc)/\w'.cell? (IM w 2)=some (U n)/\D4 W w') w'));refine kp r8 r7 λG=>?_;refine tk 1 ?_;refine tk 2 ?_;refine tk 4 ?_;refine tk 5 ?_;refine TK (rs:=[0,7]) k8 j9 ?_;refine To (λK hK=>?_) ?_
  ·
   have r7:D4 W (W.alloc (SH #[] 3)).drew:=ZL.trans fl;have Up:=I ((y9.Ft W W W rfl (m9 _)).ext fl);go_simp;refine KO (r8 _ r7) λG=>?_;have⟨giq,hgi⟩:=j7 W.heap.size;have⟨W1,Ol⟩:=j7 ((W.alloc (SH #[] 3)).drew);rw[<-Ol]at r7 Up;rw[show(GT W 0 0)=GT giq 0 0 by rw[hgi]]at Up;rw[<-Ol,<-hgi];clear Ol hgi G;refine TK (rs:=[3,7]) k8 j9 ?_;refine To (λK hK=>?_) ?_
   ·
    refine bU _ l7 ?_;refine aO _ _ l7 W (GT giq 0 0) [] l7 Up.o ba m bc t.basis l7 (H.ext r7).basis t8 r7.size ?_;intro v3 w3 Gw NN Nw;obtain⟨a3,n3,c3,rfl,NB⟩:=Gw.var;have C8:=I (show y9 w3 W (FB a3 n3 c3) t.basis by simpa using Gw);have C0:=D4.grown r7 NN (λj hj=>(Up.lt j hj).1);go_wp2_with rfl;refine KO (r8 _ C0) λG=>?_;have r7:=C0;refine tk 6 ?_;have Zz:=r7.size;have r7:=r7.trans (D4.alloc w3 (SH #[d9,d9,U 0] 216));have Ga:e9 ((w3.alloc (SH #[d9,d9,U 0] 216)).heap[w3.heap.size]?=some (SH #[d9,d9,U 0] 216 (0,0))):=nE w3 _;refine rd 7 λK hK=>?_;go_simp;refine KO (r8 _ r7) λG=>?_;have⟨gt,Ni⟩:=j7 w3.heap.size;have⟨W9,J6⟩:=j7 (w3.alloc (SH #[d9,d9,U 0] 216));have HK9:=I (show D4 w3 W9 by rw[J6];exact ZL);rw[<-J6]at r7;rw[<-J6,<-Ni]at Ga;rw[<-J6,<-Ni];have NL:W.heap.size<=gt:=by rw[Ni];exact Zz
    clear J6 Ni G Zz;have C8:=I (C8.ext HK9);have Ko:=aw Ga.o;have Kn:=aJ Ga.o;have b2_:=aK Ga.o;have bf_:=ee Ga.o;refine rd 8 λK hK=>?_;go_simp;refine hK.out _ _ ?_ (λG=>?_)
    ·exact r8.o _ (D4.Kf r7 NL _ _ _)
    clear hK K
    try simp only[Act.put,sA,sB,sC]
    refine ST k8 ?_ _;go_wp2;go_meet;exact⟨gt,a3,n3,c3,rfl,I (Lr.ach Ga.o C8.o (m9 _) NL),I (D4.Kf r7 NL _ _ _)⟩
   refine To (λK hK=>?_) R7;have Zz:=r7.size;have r7:=r7.trans (D4.alloc W1 (SH #[d9,d9,U 0] 216));have Ga:e9 ((W1.alloc (SH #[d9,d9,U 0] 216)).heap[W1.heap.size]?=some (SH #[d9,d9,U 0] 216 (0,0))):=nE W1 _;go_simp;refine KO (r8 _ r7) λG=>?_;have⟨gt,Ni⟩:=j7 W1.heap.size;have⟨W9,J6⟩:=j7 (W1.alloc (SH #[d9,d9,U 0] 216));have HK9:=I (show D4 W1 W9 by rw[J6];exact ZL);rw[<-J6]at r7;rw[<-J6,<-Ni]at Ga;rw[<-J6,<-Ni];have NL:W.heap.size<=gt:=by rw[Ni];exact Zz
   clear J6 Ni G Zz;have Up:=I (Up.ext HK9);refine rd 3 λK hK=>?_;refine bU _ l7 ?_;refine aO _ _ l7 W (GT giq 0 0) [] l7 Up.o ba m bc t.basis l7 (H.ext r7).basis t8 r7.size ?_;intro v3 w3 Gw NN Nw;obtain⟨a3,n3,c3,rfl,NB⟩:=Gw.var;have C8:=I (show y9 w3 W (FB a3 n3 c3) t.basis by simpa using Gw);have C0:=D4.grown r7 NN (λj hj=>(Up.lt j hj).1);have Ga:=I ((NN.block gt (IO Ga) (aq Up.o Ga.o FS)).trans Ga);go_wp2_with rfl;refine KO (r8 _ C0) λG=>?_;have r7:=C0;refine tk 6 ?_;have Ko:=aw Ga.o;have Kn:=aJ Ga.o;have b2_:=aK Ga.o;have bf_:=ee Ga.o;refine rd 8 λK hK=>?_;go_simp;refine hK.out _ _ ?_ (λG=>?_)
   ·exact r8.o _ (D4.Kf r7 NL _ _ _)
   clear hK K
   try simp only[Act.put,sA,sB,sC]
   refine ST k8 ?_ _;go_wp2;go_meet;exact⟨gt,a3,n3,c3,rfl,I (Lr.ach Ga.o C8.o (m9 _) NL),I (D4.Kf r7 NL _ _ _)⟩
  refine To (λK hK=>?_) R7;have r7:D4 W (W.alloc (SH #[d9,d9,U 0] 216)).drew:=ZL.trans fl;have Ga:e9 ((W.alloc (SH #[d9,d9,U 0] 216)).drew.heap[W.heap.size]?=some (SH #[d9,d9,U 0] 216 (0,0))):=nE W _;go_simp;refine KO (r8 _ r7) λG=>?_;have⟨gt,Ni⟩:=j7 W.heap.size;have⟨W1,Ol⟩:=j7 ((W.alloc (SH #[d9,d9,U 0] 216)).drew);rw[<-Ol]at r7;rw[<-Ol,<-Ni]at Ga;rw[<-Ol,<-Ni];have NL:W.heap.size<=gt:=sw Ni.symm;clear Ol Ni G;have Up:=I (y9.Ft W1 W W1 rfl r7.size);have r7:=r7.trans (D4.alloc W1 (SH #[] 3));refine rd 0 λK hK=>?_;go_simp;refine KO (r8 _ r7) λG=>?_;have⟨giq,hgi⟩:=j7 W1.heap.size;have⟨W2,hW2⟩:=j7 (W1.alloc (SH #[] 3));rw[<-hW2]at r7 Up;rw[show(GT W1 0 0)=GT giq 0 0 by rw[hgi]]at Up;have Ga:=I (show W2.heap[gt]?=some (SH #[d9,d9,U 0] 216 (0,0))by rw[hW2];exact(D4.alloc W1 (SH #[] 3)).blk Ga);rw[<-hW2,<-hgi];clear hW2 hgi G;refine rd 3 λK hK=>?_;refine bU _ l7 ?_;refine aO _ _ l7 W (GT giq 0 0) [] l7 Up.o ba m bc t.basis l7 (H.ext r7).basis t8 r7.size ?_;intro v3 w3 Gw NN Nw;obtain⟨a3,n3,c3,rfl,NB⟩:=Gw.var;have C8:=I (show y9 w3 W (FB a3 n3 c3) t.basis by simpa using Gw);have C0:=D4.grown r7 NN (λj hj=>(Up.lt j hj).1);have Ga:=I ((NN.block gt (IO Ga) (aq Up.o Ga.o FS)).trans Ga);go_wp2_with rfl;refine KO (r8 _ C0) λG=>?_;have r7:=C0;refine tk 6 ?_;have Ko:=aw Ga.o;have Kn:=aJ Ga.o;have b2_:=aK Ga.o;have bf_:=ee Ga.o;refine rd 8 λK hK=>?_;go_simp;refine hK.out _ _ ?_ (λG=>?_)
  ·exact r8.o _ (D4.Kf r7 NL _ _ _)
  clear hK K
  try simp only[Act.put,sA,sB,sC]
  refine ST k8 ?_ _;go_wp2;go_meet;exact⟨gt,a3,n3,c3,rfl,I (Lr.ach Ga.o C8.o (m9 _) NL),I (D4.Kf r7 NL _ _ _)⟩
 obtain⟨g,a3,n3,c3,rfl,Pt,Sa⟩:=hcut;clear p1 p2;go_wp2
 go_loopg [4] m (λgk ii wr=>∃(k:Nat) (va:atY) (vs:List atY),e9 (gk+k=m)/\ii=U k/\e9 (Lr wr W g va (FB a3 n3 c3) (n:Int) vs (t.rows.take k) t.basis)/\e9 (D4 W wr))
 ·exact ZQ
 obtain⟨k,va,vs,HK,rfl,T,HX⟩:=hrel;have p0:=aw (HX.blk HTB);by_cases hlt:k<m
 ·have⟨zb,Gd,za,zn,zc,Lf,Hl,A4⟩:=(H.ext HX).rows.at hlt;subst Lf;have Vn:zn<=1048576:=by rw[<-A4.hlen];exact GN.o k hlt
  have Ja:=I A4;have t0:=aw T.box;have LW:=T.lt;have hsx:=HX.size;have HVL:=I (show Lp vs=k by rw[T.rows.len,jt];have h2:=GS.o;omega);have MI:=aE k;have Ij:=SW k m;have⟨zb',WI,za',zn',zc',PE,YX,ajI⟩:=H.rows.at hlt;simp only[Pi,gl,gi]at PE;obtain⟨rfl,rfl⟩:=PE;have hzz:=Hl.symm.trans (HX.o9 YX);simp only[Pi,mn]at hzz;obtain⟨rfl,rfl,rfl⟩:=hzz;have Hzz:=I (λ(w':J) (hx:D4 W w')=>hx.o9 YX);clear ajI YX;clear A4;go_upto_region 5 with rfl;have Lm:=D4.drew wr;have r8:=I λw' (h:D4 wr w')=>TX (h.o9 t0) (TX (h.o9 p0) (TX (h.o9 Hl) (HX.trans h)));refine cj (M:=[11]) (S:=λw'=>w'.cell? (IM g 0)=some va/\w'.cell? (IM w 0)=some (FB (some (IM zb Gd)) m rc)/\w'.cell? (IM zb (Gd+k))=some (FB za zn zc)/\D4 W w') k8 ?_;have G:=r8.o _ Lm;refine Lj ⟨?_⟩;refine Im 7 λK hK=>?_
  go_simp;go_at_call 105;refine PP (js (Ja.ext Lm) O) λw5 v5 Of F'=>?_;have Lt:=I Lm.size;have Lm:D4 wr w5:=Lm.trans F';obtain⟨a5,n5,c5,rfl,JU⟩:=Of.var;have Fj:e9 (ZM w5 wr (FB a5 n5 c5) _):=Of.mono Lt;have MD:=Lm.size;clear Of;go_wp2_with rfl;refine KL (r8 _ Lm) λG=>?_
  refine Im 8 λK hK=>?_;go_simp;refine hK.out _ _ (λ_=>r8.o _ (Lm.trans ZL)) ?_;clear hK K
  try simp only[Act.put,sA,sB,sC]
  refine Im 9 λK hK=>?_;refine gh _ _ l7 W va vs l7 ((T.a.ext Lm).ext ZL) _ _ 1 l7 E5 rfl YY t8 ?_;intro v7 w7 ho hg r';obtain⟨a7,n7,q7,rfl,Ma⟩:=ho.var;have Kb:=I ho;have Uv:=I hg;have Gu:=T.QU (Lm.trans ZL) hg;have Tm:=aw Gu;have cf7:=ee Gu;have Pk:D4 W w7:=aj ((HX.trans Lm).trans ZL) hg (λj hj=>(T.a.lt j hj).1);have hZ7:e9 (w7.cell? (IM zb (Gd+k))=some (FB za zn zc)):=Hzz.o _ Pk;clear ho hg r' Gu;refine KL (eN Tm (eN (D4.o9 Pk (aw HTB)) (eN hZ7.out Pk))) λG=>?_;refine lp 10 ?_;refine Ql 11 ?_;refine cU k8 ?_ _;have Tq:=I (T.M8 (Lm.trans ZL) (Fj.ext ZL) hsx Uv.o Kb);have Nq:=I (Pk.setCell (p:=(IM g 0)) T.hg (FB a7 n7 q7));go_wp2_with rfl;refine dk ?_;exact⟨k+1,_,_,I (l8 HK.o),by go_num,I (by have:=Tq.o;rw[<-fE (by have h2:=GS.o;omega)]at this;exact this),Nq⟩
 have E':m=k:=l8 HK.o;subst E';have Pq:e9 (t.rows.take m=t.rows):=aP (sw GS);have Tq:=I (show GR wr W va (FB a3 n3 c3) vs t by
  have h1:=T.own;rw[Pq.o,<-Jz.o]at h1;exact h1)
 have t0:=aw T.box;have t1:=aJ T.box;have t2:=aK T.box;obtain⟨a7,n7,c7,rfl,Ma⟩:=T.a.var;have q0:=HX.blk Gj.o;have r0:=aw q0;have r1:=aJ q0;have r2:=aK q0;have rf:=ee q0;have hww:=J'.o;have hsx:=HX.size;clear q0;go_wp2;refine GE (v:=.agg #[FB a7 n7 c7,FB a3 n3 c3,U n]) (by simp[results,results383,go_sem,r0,r1,r2,rf]) rfl ⟨⟨_,_,vs,rfl,?_⟩,?_⟩
 ·exact(Tq.Hd λk hk=>dW _ _ _ _ _ _ O).mono O
 exact(B4.trans HX).Kf (bq _) _ _ _
end
end
section
variable{r N m:Nat}{w:J}{vs:List atY}{t:Tb}{T0:Nat->Nat->Rat}
theorem Dn(a:o8)(q:Int):(Hu a (0,q)).2=false:=by
 unfold Hu;split
 ·unfold aN;rw[i7 (uf j9)]
 rfl
section
variable{w:J}{ra:o6}{rc:Nat}{ba:o6}{bc:Nat}{t:Tb}{n m:Nat}{T0:Nat->Nat->Rat}
theorem Gy.args(h:Gy n m T0 t)(G:n<=1000){r c:Nat}(hr:r<m)(hc:c<n+m):fj t (r:Int) (c:Int)=true:=by
 unfold fj;rw[h.ok G,h.A',h.len];unfold A8;simp;omega
theorem Ct(h:Gy n m T0 t)(H:n<=1000){r c:Nat}(hr:r<m)(hc:c<n+m){q:Int}(G:t.at r c=(0,q)):bW t (r:Int) (c:Int)=none:=by
 rw[nH (h.args H hr hc)];refine nG ?_;unfold Lq;rw[(h.row r hr).1];refine tA (k:=1) ?_ O;simp only[Nm,kx];unfold PY;rw[G,Dn];rfl
def VQ(h:σ:=by
 have hww:=J'.o;clear hx Kv p0 p1 p2;go_wp2;refine GE (v:=.tuple #[.agg #[FB a7 n7 c7,FB a8 n8 c8,U n],ato false]) (by simp[results,results367,go_sem,r0,r1,r2,rf]) rfl ⟨?_,(B4.trans X8).Kf (bq _) _ _ _⟩;refine⟨FB a7 n7 c7,FB a8 n8 c8,vs8,?_,?_⟩
 ·unfold eB;rw[HN.o,Ss,Jz.o];rfl
 ·unfold eB;rw[HN.o,Ss];exact(Nt.Hd λk hk=>dW _ _ _ _ _ _ O).mono O
 ):σ:=h
theorem uH(h:QW w ra m rc ba m bc t)(hT:Gy n m T0 t)(hn:n<=1000)(hm:m<=1000){r c:Nat}(hr:r<m)(hc:c<n):
 Calls prog 367 #[Qk ra m rc ba m bc (n:Int),U r,U c] w λe w'=>VJ w' w e (eB t (r:Int) (c:Int)) (bW t (r:Int) (c:Int)).isSome/\D4 w w':=by
 have B9:=(D4.alloc w (dh ra m rc ba m bc (n:Int))).trans (D4.alloc _ (SH #[d9,d9,U 0] 216));have⟨W,hW⟩:=j7 ((w.alloc (dh ra m rc ba m bc (n:Int))).alloc (SH #[d9,d9,U 0] 216));rw[<-hW]at B9;have B4:=I B9;have H:=I (h.ext B9);have⟨FL,Hs⟩:=h.rows.ath;refine v8 hT (show Lp t.rows=m from hT.len) hT.A' (show W.heap[w.heap.size]?=some (SH #[FB ra m rc,FB ba m bc,U n] 216 (0,0))by rw[hW,wZ j9];exact LE rfl) (show W.heap[w.heap.size+1]?=some (SH #[d9,d9,U 0] 216 (0,0))by rw[hW];exact LE j9) (show W.heap.size=w.heap.size+1+1 by rw[hW];simp) (nV H.o hT hn hm) (λ(w':J) (hx:D4 W w')=>Xo (H.ext hx) hm hT.A' (λi hi=>by rw[(hT.row i hi).1];omega)) (λw'=>bj (r:Int) 0 ((m:Int)-1) w') λHT GS Jz Z Gj J' HG HCL Oo=>?_;rw[show A8 (r:Int) 0 ((m:Int)-1)=true by unfold A8;simp;omega]at Oo;have HI2:=I (λw'=>bj (c:Int) 0 ((n:Int)+(m:Int)-1) w');rw[show A8 (c:Int) 0 ((n:Int)+(m:Int)-1)=true by unfold A8;simp;omega]at HI2;have Jl:=dc ((n:Int)+(m:Int));have Gn:=dc ((n:Int)+(m:Int)-1);have Hr:=dc ((m:Int)-1);have HYG:e9 (bW t (r:Int) (c:Int)=iV t r c):=nH (hT.args hn hr O);have HZP:=I (λ(q:Int) (hp:t.at r c=(0,q))=>Ct hT hn hr (show c<n+m by omega) hp);have⟨u,hu⟩:=j7 (n+m+1);have GN:=I (show∀i,i<m->Lp (t.row i)=u by intro i hi;rw[hu];exact(hT.row i hi).1);have hcu:c<u:=O;have hub:u<=2001:=O;have hrr:=SW r m;have FH:=aE r;have Fo:=aE c;have hcI:=SW c u;have⟨zb,Gd,za,zn,zc,Lf,YX,A4⟩:=H.rows.at hr;subst Lf;have Vn:zn=u:=by rw[<-A4.hlen];exact GN.o r hr
 subst Vn;have⟨hrc1,hrc2⟩:=A4.ath;have Ja:e9 (i8 W za zn zc (t.row r)):=A4;have HZW:=I YX;have⟨pb,TC,pp,pq,hpa,MF,NJ,OD⟩:=A4.at hcu;subst hpa;refine Fn NJ OD (show t.at r c=(pp,pq)from MF) λKz K9 OS=>?_;clear h hT B9 hu MF A4;go_in
 go_upto_region 1 with rfl;rw[<-hW];clear hW;have⟨p0,p1,p2⟩:=mc Z.o;go_wp2_with rfl;refine qc HG λw1 X1=>?_;clear p0 p1 p2 YX NJ OD;have⟨p0,p1,p2⟩:=mc (X1.blk Z);have Hl:=X1.o9 HZW.o;have k0:=X1.o9 Kz.o;by_cases hpz:pp=0
 ·have HN:e9 (bW t (r:Int) (c:Int)=none):=HZP.o pq (by rw[OS.o,hpz]);subst hpz;go_wp2_with rfl;refine(Oo _).mono ?_;rintro e w1' ⟨rfl,rfl⟩;go_wp2_with rfl;refine(HI2 _).mono ?_;rintro e w1' ⟨rfl,rfl⟩;go_wp2_with rfl;refine(HCL _ X1).mono ?_;rintro e w8 ⟨⟨va8,vb8,vs8,rfl,Kv⟩,hx⟩;have X8:=I (X1.trans hx);have Nt:=I Kv;obtain⟨a7,n7,c7,rfl,Ma⟩:=Kv.a.var;obtain⟨a8,n8,c8,rfl,OU⟩:=Kv.b.var;have⟨r0,r1,r2⟩:=mc (X8.blk Gj);have rf:=ee (X8.blk Gj);have hsz:=X1.size;exact VQ
 have hppz:(pp == 0)=false:=by simpa using hpz
 clear hpz;go_wp2_with rfl;refine(Oo _).mono ?_;rintro e w1' ⟨rfl,rfl⟩;go_wp2_with rfl;refine(HI2 _).mono ?_;rintro e w1' ⟨rfl,rfl⟩;go_wp2_with rfl;refine(HCL _ X1).mono ?_;rintro e w2 ⟨⟨va,vb,vs,rfl,ho⟩,hx⟩;have X2:=I (X1.trans hx);obtain⟨aa,na,ca,rfl,U8⟩:=ho.a.var;obtain⟨ab,nb,cb,rfl,VT⟩:=ho.b.var;obtain rfl:m=na:=by have h1:=ho.rows.len;have h3:=GS.o;have h4:=U8.o;omega
 obtain rfl:m=nb:=by have h1:=VT.o;have h2:=HT.KN;omega
 obtain⟨G,hG,_,_⟩:=ho.a.cell hr;subst hG;obtain⟨B,hB,_,_,_⟩:=ho.b.block hr;subst hB;have⟨E,hE⟩:=j7 (w2.alloc (SH #[GT G m ca,GT B m cb,U n] 216));have⟨gE,hgE⟩:=j7 w2.heap.size;have Ic:D4 w2 E:=by rw[hE];exact ZL
 have agt:w1.heap.size<=gE:=by rw[hgE];exact hx.size
 have Wz:=I (show OO E w1 gE G m ca (GT B m cb) (n:Int) vs t.rows t.basis from
  ⟨by rw[hE,hgE];exact LE rfl,agt,⟨ho.a.ext Ic,ho.rows.ext Ic⟩,ho.b.ext Ic⟩)
 have X1E:=I (hx.trans Ic);have XE:=I (X1.trans X1E);have Ze:w.heap.size+1+1<=w1.heap.size:=by have:=X1.size;have:=J'.o;omega
 clear ho p0 p1 p2 hx Hl k0;go_upto_region 4 with rfl;rw[<-hE,<-hgE];clear hE hgE Ic;have p0:=aw (XE.blk Z);have Hl:=XE.o9 HZW.o;have k0:=XE.o9 Kz.o;have k1:=XE.o9 K9.o;have VX:=I (GN r hr);have⟨dv,LB⟩:=j7 (Lq (t.row r) (pp,pq));have N4:=I (show Lq (t.row r) (t.at r c)=dv by rw[OS.o,LB]);have SZ:=I (λ(w':J) (hx:D4 E w')=>CP (k1:=pp) (k2:=pq) (Ja.ext (XE.trans hx)) O);simp only[<-LB]at SZ;clear LB;have r7:=D4.drew E;have r8:=I λw' (h:D4 E w')=>TX (h.o9 p0) (TX (h.o9 Hl) (TX (h.o9 k0) (TX (h.o9 k1) h)));refine kp r8 r7 λr9=>?_
 refine ks ⟨?_⟩;refine Mp ⟨?_⟩;refine tk 7 ?_;refine tk 8 ?_;refine tk 9 ?_;refine tk 10 ?_;refine tk 11 ?_;refine tk 12 ?_;refine rd 13 λK hK=>?_;go_simp
 (go_at_call 384;refine PP (SZ _ r7) λw5 v5 Of F'=>?_;have MD:=r7.size;have r7:=r7.trans F';obtain⟨a5,n5,c5,rfl,JU⟩:=Of.var)
 go_wp2_with rfl;refine KO (r8 _ r7) λr9=>?_;refine Sv ⟨?_⟩;refine tk 18 ?_;refine ST k8 ?_ _;refine Op (XE.trans r7) (X1E.trans r7) r7 (Of.mono MD) λX5 X15 HE5 Fj=>?_;clear r7 Of p0 Hl k0 k1;cases dv with
 | none =>
   have HN:=I (show bW t (r:Int) (c:Int)=none by rw[HYG.o];exact nG N4);have⟨p0,p1,p2⟩:=mc (X5.blk Z);go_wp2_with rfl;refine(HCL _ X5).mono ?_;rintro e w8 ⟨⟨va8,vb8,vs8,rfl,Kv⟩,hx⟩;have X8:=I (X5.trans hx);have Nt:=I Kv;obtain⟨a7,n7,c7,rfl,Ma⟩:=Kv.a.var;obtain⟨a8,n8,c8,rfl,OU⟩:=Kv.b.var;have⟨r0,r1,r2⟩:=mc (X8.blk Gj);have rf:=ee (X8.blk Gj);have hsz:=X5.size;exact VQ
 | some mm =>
   have HPG:=I (show bW t (r:Int) (c:Int)=(H9 t r c mm m).map λrs=>⟨rs,t.basis.set r (c:Int),(n:Int)⟩by
    rw[HYG.o,qz N4.o,GS.o,Jz.o])
   refine Fn (show ZM w5 E (FB a5 n5 c5) mm from Fj) (show Lp mm=zn by have h1:=N4.o;unfold Lq at h1;rw[VX.o]at h1;exact cZ h1) (Wz.ext HE5) λOT OW KU=>?_;have c8:=KU.c0;have⟨G',JL,OH,hGc⟩:=KU.m.own.cell hr;obtain rfl:=O2 JL;clear JL;have Ti:w5.cell? (IM G r)=some (vs[r]?.getD undef):=by
    rw[hGc r hr];have:r<Lp vs:=by rw[KU.m.IZ];exact hr
    simp[this]
   obtain⟨G',JL,_,_,NO⟩:=KU.m.outer O;obtain rfl:=O2 JL;clear JL;have HE1s:e9 (w1.heap.size<=E.heap.size):=X1E.size;have Uq:=I (Wz.put HE5.o HE1s.o OT.o hr);have HOM6:=I (show ZM (w5.setCell (IM G r) (FB a5 n5 c5)) E (FB a5 n5 c5) mm from
    OT.keep λk hk=>If _ _ _ _ λe=>aD FS OT.o KU.m.own k hk N0)
   have Hg:=I (X15.setCell (p:=(IM G r)) OH (FB a5 n5 c5));clear hGc;go_upto_region 8 with rfl;have⟨w6,IL⟩:=j7 (w5.setCell (IM G r) (FB a5 n5 c5));rw[<-IL]at Uq HOM6 Hg;rw[<-IL];clear IL c8 Ti NO OH;have p0:=aw ((X1.trans Hg).blk Z);go_wp2
   go_loopg [11] m (λgk ii wr=>∃(k:Nat) (vs2:List atY) (M:List (o3)),e9 (gk+k=m)/\ii=U k/\e9 (H9 t r c mm k=some M)/\e9 (OO wr w1 gE G m ca (GT B m cb) (n:Int) vs2 M t.basis)/\e9 (ZM wr E (FB a5 n5 c5) mm)/\e9 (D4 w1 wr))
   ·exact⟨0,_,_,I O,rfl,I rfl,Uq,HOM6,Hg⟩
   obtain⟨k,vs2,M,Q3,rfl,M0,GJ,FM,C7⟩:=hrel;clear p0;have p0:=aw ((X1.trans C7).blk Z);have hsr2:=C7.size;by_cases F4:k<m
   ·have⟨zb2,aiP,ya,yn,yc,YW,hzk,Lj⟩:=(H.ext (X1.trans C7)).rows.at F4;obtain⟨rfl,rfl⟩:=er YW;clear YW;obtain rfl:zn=yn:=by rw[<-Lj.hlen];exact(GN k F4).symm
    have Wy:e9 (i8 wr ya zn yc (t.row k)):=Lj;have⟨yb,F3,p,q,MT,Fw,JB,F7⟩:=Wy.at hcu;subst MT;have Gi:e9 (t.at k c=(p,q)):=Fw;have⟨hyk1,hyk2⟩:=Lj.ath;have HZK:=I hzk;have Q':IntKind.i64.wrap (-p)=-p:=by
     have h1:=(HT.bounds.2 k c).1;have h2:=(HT.bounds.2 k c).2;rw[Gi.o]at h1 h2;rw[j0];simp only at h1 h2;omega
    clear Fw Lj;have Nr:=I (show decide (k=r∨t.at k c=(0,1))=(decide (k=r)||((p == 0)&&(q == 1)))by rw[Gi.o,uu];simp);have⟨E3,ZR⟩:=j7 (wr.alloc (SH #[U p,U q] 80));have⟨gx,hgx⟩:=j7 wr.heap.size;have Ga:=I (show ai wr E3 gx p q by rw[ZR,hgx];exact ai.new So _ _);go_upto_region 12 with rfl;rw[<-ZR,<-hgx];clear ZR hgx p0 JB F7 hzk;have b0:=Ga.c0;have b1:=Ga.c1
    go_cut [103] (λafu wx=>afu=ato (decide (k=r∨t.at k c=(0,1)))/\e9 (D4 E3 wx))
    case first =>
     have r7:=D4.drew E3;by_cases hkr:k=r
     ·have heq:((k:Int) == (r:Int))=true:=by simp;omega
      have HE9:=I (show decide (k=r∨t.at k c=(0,1))=true by rw[Nr.o,bl hkr];rfl);clear hkr;refine k6 (S:=(λw'=>w'.cell? (IM gx 0)=some (U p)/\w'.cell? (IM gx 1)=some (U q)/\D4 E3 w')) k8 ?_ (λr9=>?_)
      ·exact⟨r7.o9 b0,r7.o9 b1,r7⟩
      refine ks ⟨?_⟩;refine Mp ⟨?_⟩;refine tk 7 ?_;refine ST k8 ?_ _;go_wp2;go_meet;exact⟨by rw[HE9.o],I r7⟩
     have heq:((k:Int) == (r:Int))=false:=t8;have HE9:=I (show decide (k=r∨t.at k c=(0,1))=((p == 0)&&(q == 1))by rw[Nr.o,RK hkr];rfl);clear hkr;cases h1:(p == 0)
     all_goals
      cases h2:(q == 1)
     all_goals
      have HE8:=I HE9.o;rw[h1,h2]at HE8;refine k6 (S:=(λw'=>w'.cell? (IM gx 0)=some (U p)/\w'.cell? (IM gx 1)=some (U q)/\D4 E3 w')) k8 ?_ (λr9=>?_)
      ·exact⟨r7.o9 b0,r7.o9 b1,r7⟩
      refine ks ⟨?_⟩;refine tk 3 ?_;refine tk 4 ?_;refine rd 5 λK hK=>?_;go_simp
      (go_at_call 171;refine i6 (cV _ _) λw3 C0=>?_;have r7:=r7.trans C0)
      go_wp2_with rfl;refine KO (an (r7.o9 b0) (an (r7.o9 b1) r7)) λr9=>?_;refine tk 6 ?_;refine tk 7 ?_;refine ST k8 ?_ _;go_wp2;go_meet;exact⟨by rw[HE8.o];rfl,I r7⟩
    obtain⟨rfl,LF⟩:=hcut;have F1:=I (Ga.grow LF);refine Op (GJ.ext F1.ext) (FM.ext F1.ext) (C7.trans F1.ext) (Wy.ext F1.ext) λGU C8 C5 ahd=>?_;clear b0 b1;cases hsk:decide (k=r∨t.at k c=(0,1))
    ·have HNS:=I (V5 hsk);clear hsk;have p0:=aw ((X1.trans C5).blk Z);have hzk:=F1.ext.o9 HZK.o;have b0:=F1.c0;have b1:=F1.c1;have⟨sv,Od⟩:=j7 (Iw (t.row k) (-p,q) mm);have GG:=I (show H9 t r c mm (k+1)=sv.map λx=>M.set k x by rw[Od,AM M0.o HNS.o,Gi.o];rfl);have HSC:=I (λ(w':J) (hx:D4 wc w')=>qC (k1:=-p) (k2:=q) (ahd.ext hx) (C8.ext hx).rats O);simp only[<-Od]at HSC;have MI:=aE k;have Ij:=SW k m;clear Od;go_upto_region 13 with rfl;have r7:=D4.drew wc;have r8:=I λw' (h:D4 wc w')=>TX (h.o9 p0) (TX (h.o9 hzk) (TX (h.o9 b0) (TX (h.o9 b1) h)));refine kp r8 r7 λr9=>?_
     refine ks ⟨?_⟩;refine Mp ⟨?_⟩;refine tk 7 ?_;refine tk 8 ?_;refine tk 9 ?_;refine tk 10 ?_;refine tk 11 ?_;refine rd 12 λK hK=>?_;go_simp
     (go_at_call 365;refine PP (HSC _ r7) λw4 v4 Jd E4=>?_;have Wb:=r7.size;have r7:=r7.trans E4;obtain⟨a4,n4,c4,rfl,Qq⟩:=Jd.var)
     go_wp2_with rfl;refine KO (r8 _ r7) λr9=>?_;refine tk 13 ?_;refine Sv ⟨?_⟩;refine ST k8 ?_ _;refine kv (C5.trans r7) (GU.ext r7) (Jd.mono Wb) (C8.ext r7) r7 λIo Pr Gh HOM4 HK4=>?_;clear r7 Jd hzk b0 b1 p0 Q';cases sv with
     | none =>
       have HN:=I (show bW t (r:Int) (c:Int)=none by rw[HPG.o,vN (k:=k+1) (by rw[GG.o];rfl) F4];rfl);have XF:=I (X1.trans Io);have⟨p0,p1,p2⟩:=mc (XF.blk Z);go_wp2_with rfl;refine(HCL _ XF).mono ?_;rintro e w8 ⟨⟨va8,vb8,vs8,rfl,Kv⟩,hx⟩;have X8:=I (XF.trans hx);have Nt:=I Kv;obtain⟨a7,n7,c7,rfl,Ma⟩:=Kv.a.var;obtain⟨a8,n8,c8,rfl,OU⟩:=Kv.b.var;have⟨r0,r1,r2⟩:=mc (X8.blk Gj);have rf:=ee (X8.blk Gj);have hsz:=XF.size;exact VQ
     | some nr =>
       have c8:=Pr.c0;have⟨G',JL,OH,hGc⟩:=Pr.m.own.cell F4;obtain rfl:=O2 JL;clear JL;have Ti:w4.cell? (IM G k)=some (vs2[k]?.getD undef):=by
        exact A0
       obtain⟨G',JL,_,_,NO⟩:=Pr.m.outer O;obtain rfl:=O2 JL;clear JL;have L7:=I (GU.put HK4.o (l8 C5.size) Gh.o F4);have Hh:=I (Io.setCell (p:=(IM G k)) OH (FB a4 n4 c4));have HOM5:=I (show ZM (w4.setCell (IM G k) (FB a4 n4 c4)) E (FB a5 n5 c5) mm from
        HOM4.keep λj hj=>If _ _ _ _ λe=>aD FS HOM4.o Pr.m.own j hj N0)
       have HP5:=I (show H9 t r c mm (k+1)=some (M.set k nr)by rw[GG.o];rfl);clear hGc;go_wp2_with rfl;refine SD ?_;exact⟨k+1,_,_,I (l8 Q3.o),by go_num,HP5,L7,HOM5,Hh⟩
    have JE:=I (vO M0.o (nR hsk));clear hsk Q';go_wp2_with rfl;refine SD ?_;exact⟨k+1,vs2,M,I (l8 Q3.o),by go_num,JE,GU,C8,C5⟩
   have E':m=k:=l8 Q3.o;subst E';have HN:=I (show bW t (r:Int) (c:Int)=some ⟨M,t.basis.set r (c:Int),(n:Int)⟩by rw[HPG.o,M0.o];rfl);have c81:=aJ GJ.box;have⟨B',off',ZS,VE⟩:=GJ.b.ints.at hr;obtain⟨rfl,rfl⟩:=er ZS;clear ZS;obtain⟨B',ZS,hbB,hbf,_⟩:=GJ.b.block hr;obtain rfl:=O2 ZS;clear ZS;rw[fs]at VE;have Hq:=I (GJ.putB r (c:Int));have Kq:=I (C7.setCell (p:=(IM B r)) hbB (U c));go_upto_region 18 with rfl;generalize wr.setCell (IM B r) (U c)=W9 at Hq Kq⊢;clear c81 VE hbf;have⟨r0,r1,r2⟩:=mc ((X1.trans Kq).blk Gj);have rf:=ee ((X1.trans Kq).blk Gj);have⟨t0,t1,t2⟩:=mc Hq.box;go_wp2;refine GE (v:=.tuple #[.agg #[GT G m ca,GT B m cb,U n],ato true]) (by simp[results,results367,go_sem,r0,r1,r2,rf]) rfl ⟨?_,((B4.trans X1).trans Kq).Kf (bq _) _ _ _⟩;refine⟨GT G m ca,GT B m cb,vs2,?_,?_⟩
   ·unfold eB;rw[HN.o,NE];rfl
   exact UT
end
structure ch(w:J)(S:Nat)(a:o6)(na ca:Nat)(b:o6)(nb cb:Nat)(c:o6)(nc cc:Nat)(ra:o6)(rn rc:Nat)(ba:o6)(bn bc:Nat)(vs:List atY)(t:Tb)(n:Nat)(f:Bool):Prop where
 box:w.heap[S]?=some (SH #[FB a na ca,FB b nb cb,FB c nc cc,FB ra rn rc,FB ba bn bc,U t.A',U n,ato f] 219 (0,0))
 tb:GR w 0 (FB ra rn rc) (FB ba bn bc) vs t
theorem GR.setW{base S k:Nat}{H G:atY}{c:Array atY}{z:Nat×Nat}{v:atY}(h:GR w base H G vs t)(hb:w.heap[S]?=some (SH c 219 z)):GR (w.setCell (IM S k) v) base H G vs t :=
 ⟨bg h.a hb FS,⟨h.rows.len,λi hi=>bg (h.rows.row i hi) hb FS,h.rows.apart⟩,bg h.b hb FS⟩
section
variable{w:J}{S:Nat}{a:o6}{na ca:Nat}{b:o6}{nb cb:Nat}{c:o6}{nc cc:Nat}{ra:o6}{rn rc:Nat}{ba:o6}{bn bc:Nat}{vs:List atY}{t:Tb}{n:Nat}{f:Bool}
theorem ch.ext{w':J}(h:ch w S a na ca b nb cb c nc cc ra rn rc ba bn bc vs t n f)(hx:D4 w w'):ch w' S a na ca b nb cb c nc cc ra rn rc ba bn bc vs t n f:=⟨(hx.block _ (IO h.box)).trans h.box,h.tb.ext hx⟩
theorem ch.cells(h:ch w S a na ca b nb cb c nc cc ra rn rc ba bn bc vs t n f):
 w.cell? (IM S 0)=some (FB a na ca)/\w.cell? (IM S 1)=some (FB b nb cb)/\w.cell? (IM S 2)=some (FB c nc cc)/\w.cell? (IM S 3)=some (FB ra rn rc)/\w.cell? (IM S 4)=some (FB ba bn bc)/\w.cell? (IM S 5)=some (U t.A')/\w.cell? (IM S 6)=some (U n)/\w.cell? (IM S 7)=some (ato f)/\∀k,w.frozen? (IM S k)=false:=by
 have hb:=h.box;refine⟨?_,?_,?_,?_,?_,?_,?_,?_,λk=>fy w S k _ _ hb⟩<;>rw[UV w S _ _ _ _ hb]<;>rfl
theorem ch.fail(h:ch w S a na ca b nb cb c nc cc ra rn rc ba bn bc vs t n f):ch (w.setCell (IM S 7) (ato true)) S a na ca b nb cb c nc cc ra rn rc ba bn bc vs t n true :=
 ⟨aM w S 7 _ _ (ato true) h.box,h.tb.setW h.box⟩
theorem ch.step(h:ch w S a na ca b nb cb c nc cc ra rn rc ba bn bc vs t n f){TB:o6}{TA G:Nat}{K:o6}{Ud H:Nat}{Z:List atY}{t':Tb}(ho:GR w 0 (FB TB TA G) (FB K Ud H) Z t')(f':Bool):
 ch (((((w.setCell (IM S 3) (FB TB TA G)).setCell (IM S 4) (FB K Ud H)).setCell (IM S 5) (U t'.A')).setCell (IM S 6) (U ((n:Int)+1))).setCell (IM S 7) (ato f')) S a na ca b nb cb c nc cc TB TA G K Ud H Z t' (n+1) f':=by
 have b1:=aM w S 3 _ _ (FB TB TA G) h.box;have b2:=aM _ S 4 _ _ (FB K Ud H) b1;have b3:=aM _ S 5 _ _ (U t'.A') b2;have b4:=aM _ S 6 _ _ (U ((n:Int)+1)) b3;have b5:=aM _ S 7 _ _ (ato f') b4;refine⟨?_,((((ho.setW h.box).setW b1).setW b2).setW b3).setW b4⟩;rw[b5];have:((n+1:Nat):Int)=(n:Int)+1:=j9;rw[this];rfl
end
theorem ZM.modW{w':J}{S b:Nat}{v:atY}{l:o3}(h:ZM w b v l)(hm:aR S w w'){c:Array atY}{z:Nat×Nat}(hb:w.heap[S]?=some (SH c 219 z)):ZM w' b v l :=
 h.keep λk hk=>hm.block k (h.lt k hk).2 λe=>(aq h hb FS) N3
def ir(S:Nat)(a:o6)(na ca:Nat)(b:o6)(nb cb:Nat)(c:o6)(nc cc:Nat)(w w':J)(o:Option (Tb×Nat)):Prop :=
 aR S w w'/\∃ra rn rc ba bn bc vs,match o with
  | some (t,n)=>ch w' S a na ca b nb cb c nc cc ra rn rc ba bn bc vs t n false
  | none=>∃t n,ch w' S a na ca b nb cb c nc cc ra rn rc ba bn bc vs t n true
section
variable{w:J}{S:Nat}{a:o6}{na ca:Nat}{b:o6}{nb cb:Nat}{c:o6}{nc cc:Nat}{ra:o6}{rc:Nat}{ba:o6}{bc:Nat}{vs:List atY}{t:Tb}{n:Nat}
theorem wi{N m:Nat}{T0:Nat->Nat->Rat}(h:ch w S a na ca b nb cb c nc cc ra m rc ba m bc vs t n false)(hT:Gy N m T0 t)(hN:N<=1000)(hm:m<=1000)(hn:n<=1000){r k:Nat}(hr:r<m)(hk:k<N):
 Calls prog 343 #[ats (some (IM S 0)),U r,U k] w λe w'=>e=atn (.tuple #[])/\ir S a na ca b nb cb c nc cc w w' (Jp t n (r:Int) (k:Int)):=by
 have hlt:=IO h.box;have⟨l0,l1,l2,c0,c1,c2,c3,c4,cf⟩:=h.cells;have H:=I h;rw[hT.A']at c2;by_cases QN:n=1000
 ·subst QN;have HP:=I (show Jp t 1000 (r:Int) (k:Int)=none by unfold Jp;rw[i7 rfl]);exact P9
 have UO:¬(n:Int)≥1000:=O;have Ht:n<1000:=O;have OS:=I (uH h.tb.Ku hT hN hm hr hk);have HP:=I (show Jp t n (r:Int) (k:Int)=(bW t (r:Int) (k:Int)).map λt'=>(t',n+1)by unfold Jp;rw[f8 QN]);have MS:=I hT.A';unfold VJ eB at OS;have⟨o,ho⟩:=j7 (bW t (r:Int) (k:Int));have Rj:=I (show(o.getD t).A'=(N:Int)by
  cases o with
  | none=>exact MS
  | some t' =>
     have G:=ho.symm;unfold bW at G;split at G
     ·unfold iV at G;cases hd:Lq (t.row (Int.toNat (r:Int))) (t.at (Int.toNat (r:Int)) (Int.toNat (k:Int)))with
      | none=>rw[hd]at G;cases G
      | some mm=>rw[hd,kx,O0]at G;obtain⟨rs,_,rfl⟩:=G;exact MS
     cases G)
 rw[<-ho]at OS HP;clear ho;go_in
 go_wp2_with rfl;refine OS.mono ?_;rintro e w1 ⟨⟨va,vb,Z,rfl,ho⟩,hx⟩;obtain⟨a7,n7,c7,rfl,Ma⟩:=ho.a.var;obtain⟨a8,n8,c8,rfl,OU⟩:=ho.b.var;rw[Rj.o];have⟨E1,SK⟩:=j7 (w1.alloc (SH #[FB a7 n7 c7,FB a8 n8 c8,U N] 216));have⟨gE,K⟩:=j7 w1.heap.size;refine Fn (show D4 w E1 by rw[SK];exact hx.trans ZL) (show GR E1 0 (FB a7 n7 c7) (FB a8 n8 c8) Z (o.getD t)by rw[SK];exact(ho.ext ZL).mono (ef _)) (show E1.heap[gE]?=some (SH #[FB a7 n7 c7,FB a8 n8 c8,U N] 216 (0,0))by rw[SK,K];exact LE rfl) λX1 HO Ga=>?_;have HS:=I (H.ext X1);go_upto_region 3 with rfl;rw[<-SK,<-K];clear SK K ho;have⟨l0,l1,l2,c0,c1,c2,c3,c4,cf⟩:=HS.cells;rw[MS.o]at c2;have⟨b0,b1,b2⟩:=mc Ga.o;have F4:=IO Ga.o;have hne:gE≠S:=λe=>mC Ga.o HS.box FS e
 have Hx:=I (λf'=>HS.step HO.o f');rw[Rj.o]at Hx;cases o with
 | none =>
   go_wp2_with rfl;refine al (Q8 rfl _ _ _) rfl ⟨rfl,(aR.of X1).trans ((((AA.trans AA).trans AA).trans AA).trans AA),?_⟩;rw[HP.o];exact⟨_,_,_,_,_,_,_,_,_,Hx.o true⟩
 | some t' =>
   go_wp2_with rfl;refine al (Q8 rfl _ _ _) rfl ⟨rfl,(aR.of X1).trans ((((AA.trans AA).trans AA).trans AA).trans AA),?_⟩;rw[HP.o];exact⟨_,_,_,_,_,_,_,Hx.o false⟩
end
def Ol(S:Nat)(a:o6)(na ca:Nat)(b:o6)(nb cb:Nat)(c:o6)(nc cc:Nat)(w:J)(e:Ending)(w':J)(o:Option Ph):Prop :=
 aR S w w'/\∃ra rn rc ba bn bc vs,match o with
  | some p=>∃v,e=atn (.tuple #[v,U p.Fm])/\ZM w' w v p.costs/\ch w' S a na ca b nb cb c nc cc ra rn rc ba bn bc vs p.t (1000-p.left) false
  | none=>∃v Fm t n,e=atn (.tuple #[v,U Fm])/\ch w' S a na ca b nb cb c nc cc ra rn rc ba bn bc vs t n true
section
variable{w:J}{S:Nat}{a:o6}{na ca:Nat}{b:o6}{nb cb:Nat}{c:o6}{nc cc:Nat}
structure gx(w wr:J)(S:Nat)(a:o6)(na ca:Nat)(b:o6)(nb cb:Nat)(c:o6)(nc cc:Nat)(N m:Nat)(T0:Nat->Nat->Rat)(cost:o3)(o:Option Ph)(gk:Nat)(nn:Nat)(tt:Tb)(ra:o6)(rc:Nat)(ba:o6)(bc:Nat)(vs:List atY):Prop where
 meas:gk=1000-nn
 mod:aR S w wr
 st:ch wr S a na ca b nb cb c nc cc ra m rc ba m bc vs tt nn false
 inv:Gy N m T0 tt
 le:nn<=1000
 go:bD cost (1000-nn) tt=o
theorem ch.same{ra:o6}{rn rc:Nat}{ba:o6}{bn bc:Nat}{vs:List atY}{t:Tb}{n:Nat}{f:Bool}{N m:Nat}{T0:Nat->Nat->Rat}(h:ch w S a na ca b nb cb c nc cc ra rn rc ba bn bc vs t n f)(G:Gy N m T0 t):rn=m/\bn=m:=G.sizes h.tb.Ku
theorem wh{ra:o6}{rc:Nat}{ba:o6}{bc:Nat}{vs:List atY}{t:Tb}{n:Nat}{N m:Nat}{T0:Nat->Nat->Rat}(h:ch w S a na ca b nb cb c nc cc ra m rc ba m bc vs t n false)(hT:Gy N m T0 t)(hN:N<=1000)(hm:m<=1000)(hn:n<=1000){ka:o6}{kn kc b0:Nat}{cost:o3}(hc:ZM w b0 (FB ka kn kc) cost)(GF:kn=N+m)(hv:Hf cost=true):
 Calls prog 306 #[ats (some ⟨S,0,none⟩),FB ka kn kc] w λe w'=>Ol S a na ca b nb cb c nc cc w e w' (bD cost (1000-n) t):=by
 have⟨o,ho⟩:=j7 (bD cost (1000-n) t);rw[<-ho];refine kv (show gx w w S a na ca b nb cb c nc cc N m T0 cost o (1000-n) n t ra rc ba bc vs from⟨rfl,aR.refl _ _,h,hT,hn,ho.symm⟩) hc h.box GF hv λH0 HC Ga Hk Rm=>?_;have hlt:=IO h.box;clear h hT ho hc GF hv;go_in
 go_wp2
 go_loopg [6] (1000-n) (λgk s6 wr=>∃(nn:Nat) (G:Tb) (ra:o6) (rc:Nat) (ba:o6) (bc:Nat) (vs:List atY),e9 (gx w wr S a na ca b nb cb c nc cc N m T0 cost o gk nn G ra rc ba bc vs))
 ·exact⟨n,t,_,_,_,_,_,H0⟩
 obtain⟨nn,G,ra,rc,ba,bc,vs,HH⟩:=hrel;have⟨l0,Z,K,c0,c1,c2,c3,c4,cf⟩:=HH.st.cells;have hl1:=IO HH.st.box;have J2:=HH.mod.size;have HT:=I HH.inv;have Ht:=HH.le;have HPH:=I HH.go;have MS:=I HH.inv.A';rw[MS.o]at c2;have HCR:=I (EK HH.st.tb.Ku HT.o hN hm (HC.modW HH.mod Ga).rats Hk.o Rm);cases H:dE G cost with
 | none =>
   have HO:=I (show o=none by rw[<-HPH.o];exact sY _ H);rw[H]at HCR;go_wp2_with rfl;refine HCR.mono ?_;simp only[Ss,L'];rintro e w2 ⟨⟨v2,rfl,Is⟩,hx⟩;have HS:=I (HH.st.ext hx);have HM:=I (HH.mod.trans (aR.of hx));clear Is hx l0 Z K c0 c1 c2 c3 c4 cf H;have⟨l0,Z,K,c0,c1,c2,c3,c4,cf⟩:=HS.cells;exact tx
 | some cs =>
   rw[H]at HCR;have Sf:=I H;go_wp2_with rfl;refine HCR.mono ?_;simp only[NE,YO];rintro e w2 ⟨⟨v2,rfl,Is⟩,hx⟩;obtain⟨a2,n2,p2,rfl,Jb⟩:=Is.var;refine Fn (HH.st.ext hx) (HH.mod.trans (aR.of hx)) (show ZM w2 w (FB a2 n2 p2) cs from ZM.mono Is J2) λHS HM FM=>?_;have Pc:N<=n2:=by have h1:=Jb.o;rw[(fq HT.o Sf).1.1]at h1;omega
   clear Is hx l0 Z K c0 c1 c2 c3 c4 cf H;have⟨l0,Z,K,c0,c1,c2,c3,c4,cf⟩:=HS.cells;rw[MS.o]at c2;have⟨Fm,Nj⟩:=j7 (bQ cs (N:Int));have HCL:=I Nj;have Rl:=I (show bQ cs G.A'=Fm by rw[MS.o,Nj]);have hrng:=kQ cs N;rw[<-Nj]at hrng;clear Nj;go_upto_region 5 with rfl;have r7:=D4.drew w2;have Fu:=r7;have r8:=I (λ(w':J) (h:D4 w2 w')=>(an (h.o9 c0) (an (h.o9 c1) (an (h.o9 c2) h))))
   go_region_held3 (λw'=>w'.cell? ⟨S,3,none⟩=some (FB ra m rc)/\w'.cell? ⟨S,4,none⟩=some (FB ba m bc)/\w'.cell? ⟨S,5,none⟩=some (.int .i64 (N:Int))/\D4 w2 w')
    (with_reducible exact r8.o _ r7)
    (first
      | ((with_reducible refine(rJ (ra:=ra) (rn:=m) (rc:=rc) (ba:=ba) (bn:=m) (bc:=bc) (x:=(N:Int)) (FM.o.rats.ext BB) N Pc).mono ?_)
         rw[<-HCL.o];rintro e w3 ⟨rfl,D3⟩;have r7:D4 w2 w3:=r7.trans D3;have Ra:=r7.size))
   clear Fu;refine Fn (HS.ext r7) (HM.trans (aR.of r7)) (FM.ext r7) λMZ LG C8=>?_;clear r7 l0 Z K c0 c1 c2 c3 c4 cf;rcases hrng with Fo|⟨cN,hcN,Oi⟩
   ·subst Fo;have HO:=I (show o=some ⟨G,1000-nn,cs,-1⟩by rw[<-HPH.o];exact qw _ Sf.o (by rw[Rl.o];omega));exact Mr
   subst hcN;have⟨l0,Z,K,c0,c1,c2,c3,c4,cf⟩:=MZ.cells;rw[MS.o]at c2;have NC:=I (yQ MZ.tb.Ku HT.o hN hm Oi);have⟨row,A4⟩:=j7 (dN G (cN:Int));have IE:=I (show dN G (bQ cs G.A')=row by rw[Rl.o,A4]);have Gv:row=-1∨(0<=row/\row<m):=by
    rw[A4];unfold dN;split
    ·have:=lS G (Int.toNat (cN:Int)) (Lp G.rows);rw[HT.len]at this⊢;exact this
    exact uf rfl
   rw[<-A4]at NC;have hcn0:¬(cN:Int)<0:=O;clear A4;go_wp2_with rfl;refine i6 NC λw4 hx=>?_;refine Fn (MZ.ext hx) (LG.trans (aR.of hx)) (C8.ext hx) λQy M3 Gh=>?_;clear hx l0 Z K c0 c1 c2 c3 c4 cf;rcases Gv with FH|⟨FH,FL⟩
   ·subst FH;have HO:=I (show o=some ⟨G,1000-nn,cs,(cN:Int)⟩by
     rw[<-HPH.o,qx _ Sf.o (by rw[Rl.o];omega) (by rw[IE.o];omega),Rl.o])
    exact J4
   obtain⟨rN,hrN⟩:∃k:Nat,row=k:=⟨row.toNat,by omega⟩;subst hrN;have Kk:rN<m:=O;have hrn0:¬(rN:Int)<0:=O;have NA:=I (show o=(Jp G nn (rN:Int) (cN:Int)).bind λs=>bD cost (1000-s.2) s.1 by
    rw[<-HPH.o,qy Ht Sf.o (by rw[Rl.o];omega) (by rw[IE.o];omega),IE.o,Rl.o])
   have OS:=I (wi Qy.o HT.o hN hm Ht Kk Oi);have HK:e9 (gk=1000-nn):=HH.meas;go_wp2_with rfl;refine OS.mono ?_;rintro e w5 ⟨rfl,Og,ra5,rn5,rc5,ba5,bn5,bc5,vs5,FU⟩;cases Mi:Jp G nn (rN:Int) (cN:Int)with
   | none =>
     rw[Mi]at FU;obtain⟨t5,n5,MD⟩:=FU;refine Fn (show o=none by rw[NA.o,Mi];rfl) MD (M3.trans Og) λHO Lt KU=>?_;clear MD Mi Og;have⟨l0,Z,K,c0,c1,c2,c3,c4,cf⟩:=Lt.cells;go_wp2;go_ret2;refine⟨KU,?_⟩;rw[HO.o];exact⟨_,_,_,_,_,_,_,_,_,_,_,rfl,Lt⟩
   | some st =>
     obtain⟨t5,n5⟩:=st;rw[Mi]at FU;have LU:n5=nn+1/\nn<1000/\bW G (rN:Int) (cN:Int)=some t5:=by
      exact Od
     obtain⟨rfl,hlt5,hpt⟩:=LU;have HO:=I (show bD cost (1000-(nn+1)) t5=o by rw[NA.o,Mi];rfl);have hT5:=ia HT.o hpt;have⟨e1,e2⟩:=ch.same FU hT5;have Wo:=e1.symm;have e2':=e2.symm;clear e1 e2;subst Wo;subst e2';have HH5:e9 (gx w w5 S a na ca b nb cb c nc cc N m T0 cost o (1000-(nn+1)) (nn+1) t5 ra5 rc5 ba5 bc5 vs5):=I ⟨rfl,M3.trans Og,FU,hT5,by omega,HO⟩;have⟨l0,Z,K,c0,c1,c2,c3,c4,cf⟩:=ch.cells FU;clear FU Mi Og hpt hT5;go_wp2
     go_roundg (1000-(nn+1))
     case measure=>exact ck
     exact⟨nn+1,t5,_,_,_,_,_,HH5⟩
end
section
variable{w:J}{a:o6}{na ca:Nat}{b:o6}{nb cb:Nat}{c:o6}{nc cc:Nat}{A:o4}{B:o7}{C:o3}
def jK(first:Bool)(C:o3)(m:Nat):o3:=if first=true then eT (Lp C) m else dA C m
theorem wg(h:L6 w a na ca b nb cb c nc cc A B C)(first:Bool)(h1:nc<=1000)(h2:na<=1000):
 Calls prog 307 #[JI a na ca b nb cb c nc cc,ato first] w λe w'=>(∃v,e=atn v/\ZM w' w v (jK first C na))/\D4 w w':=by
 have B9:=D4.alloc w (bT a na ca b nb cb c nc cc);have B4:=I B9;have HTB:=I (ah w (bT a na ca b nb cb c nc cc) _ rfl);have⟨W,hW⟩:=j7 (w.alloc (bT a na ca b nb cb c nc cc));have H:=I (h.ext B9);rw[<-hW]at B9 B4 HTB H;have⟨FQ,IH⟩:=h.c.ath;have⟨Wn,QQ⟩:=h.a.ath;have HL:=I h.c.hlen;have Oc:W.heap.size=w.heap.size+1:=by rw[hW];simp
 have aho:=I (ZM.made W (w+1) O);have X1:=I (D4.alloc W (SH #[] 80));rw[Oc]at aho;clear h B9;go_in
 go_upto_region 1 with rfl;rw[<-hW];clear hW;have⟨D,hD⟩:=j7 (if first=true then List.replicate nc ((0:Int),(1:Int)) else C)
 have HD:=I hD;have N4:=I (show Lp D=nc by rw[hD];cases first<;>simp[HL.o]);have HSO:=I (show jK first C na=D++List.replicate na (Fv first,1)by
  unfold jK eT dA;rw[hD,HL.o];cases first<;>rfl)
 clear hD;go_wp2
 go_loopg [5,6] nc (λgk oo ii wr=>∃(k:Nat) (Z:o6) (G p1:Nat),e9 (gk+k=nc)/\ii=U k/\oo=FB Z G p1/\e9 (ZM wr (w+1) (FB Z G p1) (D.take k))/\e9 (D4 W wr))
 ·exact rk
 rename Nat=>g1;rename J=>A1;obtain⟨k,Z,G,q1,HK,rfl,rfl,HO1,HX⟩:=hrel;have p2:=aK (HX.blk HTB);have hsz:=HX.size;by_cases K:k<nc
 ·have Gq:=I (show(D.take k).length=k by rw[jt,N4.o];omega);have aa:=I (λ(p:o8) (hp:D[k]?.getD (0,0)=p)=>show D.take k++[p]=D.take (k+1)by rw[dO (by rw[N4.o];exact K),hp]);cases first
  ·have⟨eb,D6,ex,ey,Kl,Wk,GI,LX⟩:=(H.ext HX).c.at K;subst Kl;have H7:=I (aa (ex,ey) (by rw[HD.o];exact Wk));clear Wk
   go_wp2_with (first
    | (at_builtin;refine Qt ex ey HO1 HX E9 λa5 n5 p5 w5 JU X5 Fj=>?_))
   refine gy ?_;exact OP
  have H7:=I (aa (0,1) (by rw[HD.o];exact yI K));go_wp2_with rfl;refine qc (cV 0 _) λw3 hx=>?_;have X3:=I (HX.trans hx);have C8:=I (HO1.ext hx);have LR:=X3.size;clear p2
  go_wp2_with (first
   | (at_builtin;refine Qt 0 1 C8 X3 E9 λa5 n5 p5 w5 JU X5 Fj=>?_))
  refine gy ?_;exact OP
 have JS:k=nc:=l8 HK.o;have FM:=I (show ZM A1 (w+1) (FB Z G q1) (D++List.replicate 0 (Fv first,1))by
  have:=HO1.o;rw[aP (by rw[N4.o];omega)]at this;simpa using this)
 clear JS;go_wp2_with rfl;clear p2
 go_loopg [5,7] na (λgk oo ii wr=>∃(k:Nat) (Z:o6) (G p1:Nat),e9 (gk+k=na)/\ii=U k/\oo=FB Z G p1/\e9 (ZM wr (w+1) (FB Z G p1) (D++List.replicate k (Fv first,1)))/\e9 (D4 W wr))
 ·exact⟨0,_,_,_,I O,rfl,rfl,FM,HX⟩
 obtain⟨j,a2,n2,q2,HJ,rfl,rfl,Gh,Io⟩:=hrel;have p0:=aw (Io.blk HTB);have Vq:=Io.size;by_cases Hn:j<na
 ·have Gq:=I (show(D++List.replicate j (Fv first,(1:Int))).length=nc+j by rw[ar,N4.o,yl]);have Qj:=I (λw'=>fN first w');go_wp2_with (go_at_call 249;refine(Qj _).mono ?_;rintro e w2 ⟨rfl,rfl⟩);refine qc (cV (Fv first) _) λw3 hx=>?_;have X3:=I (Io.trans hx);have C8:=I (Gh.ext hx);have LR:=X3.size;clear p0
  go_wp2_with (first
   | (at_builtin;refine Qt (Fv first) 1 C8 X3 E9 λa5 n5 p5 w5 JU X5 Fj=>?_))
  refine sq ?_;exact⟨j+1,a5,n5,p5,I (l8 HJ.o),by go_num,rfl,I RU,X5⟩
 have Nh:na=j:=l8 HJ.o;exact Jg
end
theorem Xa(a b:o8):-1000000000<=(FD a b).1.1/\(FD a b).1.1<=1000000000:=by
 cases h:(FD a b).2
 ·rw[px h];simp
 have:=aV (pW h).2.2.1;omega
theorem ai.put0{W:J}{g:Nat}{p q:Int}(h:ai w W g p q)(p':Int):ai w (W.setCell (IM g 0) (U p')) g p' q :=
 ⟨h.ext.setCell (p:=(IM g 0)) h.ge (U p'),h.ge,by rw[aM _ _ _ _ _ _ h.cell];rfl⟩
section
variable{w:J}{S:Nat}{a:o6}{na ca:Nat}{b:o6}{nb cb:Nat}{c:o6}{nc cc:Nat}{ra:o6}{rn rc:Nat}{ba:o6}{bn bc:Nat}{vs:List atY}{t:Tb}{n:Nat}{f:Bool}
def k3(h:σ:=by
 have LX:e1=d1:=by have:=MY.o;unfold Je at this;rw[f8 O]at this;exact(IR Prod.fst this).symm
 subst LX;rw[show decide (bi<0)=false from RK O];go_wp2;go_meet;exact⟨rfl,FJ⟩
 ):σ:=h
theorem ze{N:Nat}(h:ch w S a na ca b na cb c nc cc ra rn rc ba bn bc vs t n f)(J5:t.A'=N){B:o7}(hB:d6 w b na cb B)(hca1:na<=ca)(hca2:ca<=9223372036854775807){ka:o6}{kn kc:Nat}{cs:o3}(hK:i8 w ka kn kc cs)(E':N+na<=kn)(hbig:kn<=100000)(base:Int):
 Calls prog 309 #[ats (some ⟨S,0,none⟩),FB ka kn kc,.int .i64 base] w λe w'=>(∃v,e=atn v/\ZM w' w v ((List.range na).map (en B (base,1) cs N)))/\D4 w w':=by
 have H:=I h;have hlt:=IO h.box;have HB:=I hB;have HK':=I hK;have Gm:=hB.y7;have F0:=hB.y8;have Ij:=hK.y7;have af':=hK.y8;refine Fn J5 (ZM.made w w (m9 _)) (D4.alloc w (SH #[] 80)) λMS aho X1=>?_;clear h hB hK J5;go_in
 go_wp2
 go_loopg [7,8] na (λgk oo ii wr=>∃(k:Nat) (a1:o6) (n1 p1:Nat),e9 (gk+k=na)/\ii=.int .i64 (k:Int)/\oo=FB a1 n1 p1/\e9 (ZM wr w (FB a1 n1 p1) ((List.range k).map (en B (base,1) cs N)))/\e9 (D4 w wr))
 ·exact rk
 obtain⟨k,a1,n1,q1,HK,rfl,rfl,HR,IX⟩:=hrel;have hsz:=IX.size;have⟨l0,l1,l2,c0,c1,c2,c3,c4,cf⟩:=(H.ext IX).cells;rw[MS.o]at c2;by_cases F4:k<na
 ·have⟨z,hz⟩:=j7 (N+k);have hzu:z<kn:=by omega
  have⟨zb,Gd,ex,ey,Lf,Wk,GI,LX⟩:=(HK'.ext IX).at hzu;subst Lf;obtain⟨d1,Z,OL,G⟩:∃x y ok,FD (base,1) (ex,ey)=((x,y),ok):=⟨_,_,_,rfl⟩;have Mb:=I G;have K:=Xa (base,1) (ex,ey);rw[G]at K;have Q':IntKind.i64.wrap (-d1)=-d1:=by rw[j0];simp only at K;omega
  have⟨bb,NU,hba,I7⟩:=(HB.ext IX).at F4;subst hba;have⟨bi,Jh⟩:=j7 (B[k]?.getD 0);rw[<-Jh]at I7;have Mo:=I I7;have V3:=I (show en B (base,1) cs N k=Je bi (d1,Z)by unfold en;rw[<-hz,Wk,G,Jh]);have hwr:=qj ((N:Int)+(k:Int)) (z:Int);have YZ:=aE z;have YY:=SW z kn;clear Wk G Jh hz K;go_upto_region 5 with rfl;go_upto_region 5 with rfl
  go_cut [9,10] (λsx so wx=>∃g:Nat,sx=ats (some ⟨g,0,none⟩)/\so=ato OL/\e9 (ai wr wx g d1 Z))
  case first =>
   have r7:=D4.drew wr;have Fu:D4 wr (wr.alloc (SH #[.int .i64 0,.int .i64 0] 80)).drew:=ZL.trans fl;have r8:=I (λ(w':J) (h:D4 wr w')=>(an (h.o9 c2) (an (h.o9 GI) (an (h.o9 LX) h))))
   go_region_held3 (λw'=>w'.cell? ⟨S,5,none⟩=some (.int .i64 (N:Int))/\w'.cell? ⟨zb,Gd+z*2,none⟩=some (.int .i64 ex)/\w'.cell? ⟨zb,Gd+z*2+1,none⟩=some (.int .i64 ey)/\D4 wr w')
    (exact yg)
    (first
      | ((with_reducible refine(cV base _).mono ?_)
         rintro e w7 ⟨rfl,Gr⟩
         try with_reducible first|have A7:=ai.grow A7 Gr|have A7:=ai.Fk Gr|have A7:=ai.Fq r7 Gr
         try(have Ko:=A7.c0;have Kn:=A7.c1;have L4:=A7.free)
         have r7:D4 wr w7:=Zg;have G7:=r7.size)
      | ((with_reducible refine(rL base 1 ex ey _).mono ?_)
         rw[Mb.o];rintro e w8 ⟨rfl,Hm⟩
         try with_reducible first|have A7:=ai.grow A7 Hm|have A7:=ai.Fk Hm|have A7:=ai.Fq r7 Hm
         try(have Ko:=A7.c0;have Kn:=A7.c1;have L4:=A7.free)
         have r7:D4 wr w8:=Qz;have G7:=r7.size))
   all_goals(exact yx)
  obtain⟨g,rfl,rfl,FJ⟩:=hcut;have U2:=I (IX.trans FJ.ext);clear hwr YZ YY GI LX l0 l1 l2 c0 c1 c2 c3 c4 cf I7;have⟨l0,l1,l2,c0,c1,c2,c3,c4,cf⟩:=(H.ext U2).cells;have I7:=FJ.ext.o9 Mo.o;obtain⟨e1,LQ⟩:∃e1,Je bi (d1,Z)=(e1,Z):=by unfold Je D2;split<;>exact⟨_,rfl⟩
  have MY:=I LQ;clear LQ;go_upto_if 46 with rfl
  go_cut [8] (λs8 wx=>s8=.int .i64 (k:Int)/\e9 (ai wr wx g e1 Z))
  case first =>
   have g0:=FJ.c0;have g1':=FJ.c1;have gf:=FJ.free;by_cases OG:bi<0
   ·have LX:-d1=e1:=by have:=MY.o;unfold Je D2 at this;rw[i7 OG]at this;exact IR Prod.fst this
    rw[show decide (bi<0)=true from bl OG];have HBN:=I (FJ.put0 e1);rw[LX]at Q';clear OG;go_wp2;go_meet;exact⟨rfl,by first|exact HBN|(rw[LX];exact HBN)⟩
   exact k3
  obtain⟨rfl,F1⟩:=hcut;have C8:=I (HR.ext F1.ext);have C5:=I (IX.trans F1.ext);have g0:=F1.c0;have g1':=F1.c1;have LW:=F1.lt;have LR:=C5.size;have OQ:=I (show((List.range k).map (en B (base,1) cs N)).length=k by simp);have H7:=I (show(List.range k).map (en B (base,1) cs N)++[(e1,Z)]=(List.range (k+1)).map (en B (base,1) cs N)by rw[<-MY.o,<-V3.o];exact dq _ _);clear l0 l1 l2 c0 c1 c2 c3 c4 cf I7 Q'
  go_wp2_with (first
   | (at_builtin;refine Qt e1 Z C8 C5 Yw λa5 n5 p5 w5 JU X5 Fj=>?_))
  have MR:=HK;refine Oq ?_;exact OP
 have FA:na=k:=l8 HK.o;exact K0
end
section
variable{w:J}{S:Nat}{a:o6}{na ca:Nat}{b:o6}{nb cb:Nat}{c:o6}{nc cc:Nat}{ra:o6}{rc:Nat}{ba:o6}{bc:Nat}{vs:List atY}{t:Tb}{n:Nat}{N m:Nat}{T0:Nat->Nat->Rat}
def QC(h:σ:=by
 go_wp2_with rfl;refine Y6 ?_;exact⟨i+1,I (l8 HI.o),by go_num,NX,C5⟩
 ):σ:=h
theorem MB(h:ch w S a na ca b nb cb c nc cc ra m rc ba m bc vs t n false)(hT:Gy N m T0 t)(hN:N<=1000)(hm:m<=1000){jc:Nat}(hjc:jc<N):
 Calls prog 312 #[ats (some (IM S 0)),U jc] w λe w'=>(∃v,e=atn v/\ZM w' w v (H5 t N jc m))/\D4 w w':=by
 have H:=I h;have aa:=IO h.box;have HT:=I hT;have MS:=I hT.A';have⟨FL,Hs⟩:=h.tb.Ku.rows.ath;have⟨Gm,F0⟩:=h.tb.Ku.basis.ath;have aho:=I (ZM.made w w (m9 _));have X1:=I (D4.alloc w (SH #[] 80));clear h hT;go_in
 go_wp2
 go_loopg [5,6] N (λgk oo ii wr=>∃(k:Nat) (a1:o6) (n1 p1:Nat),e9 (gk+k=N)/\ii=U k/\oo=FB a1 n1 p1/\e9 (ZM wr w (FB a1 n1 p1) ((List.range k).map λi=>if i=jc then((1:Int),(1:Int)) else(0,1)))/\e9 (D4 w wr))
 ·exact rk
 rename Nat=>g1;rename J=>A1;obtain⟨k,a1,n1,q1,HK,rfl,rfl,HO1,HX⟩:=hrel;have hsz:=HX.size;have⟨l0,l1,l2,c0,c1,c2,c3,c4,cf⟩:=(H.ext HX).cells;rw[MS.o]at c2;by_cases F4:k<N
 ·have Gq:=I (show((List.range k).map λi=>if i=jc then((1:Int),(1:Int)) else(0,1)).length=k by simp);obtain⟨un,Nv⟩:∃u:Int,u=if k=jc then 1 else 0:=⟨_,rfl⟩
  have H7:=I (show(List.range k).map (λi=>if i=jc then((1:Int),(1:Int)) else(0,1))++[(un,1)]=(List.range (k+1)).map λi=>if i=jc then((1:Int),(1:Int)) else(0,1)by
   rw[<-dq,Nv];congr 2;split<;>rfl)
  have Pd:((k:Int) == (jc:Int))=decide (k=jc):=by by_cases h:k=jc<;>simp[h]<;>omega
  have HUN:=I (show Fv (decide (k=jc))=un by rw[Nv];by_cases h:k=jc<;>simp[h,Fv]);have Qj:=I (λw'=>fN (decide (k=jc)) w');rw[HUN.o]at Qj;clear Nv;go_wp2_with (go_at_call 249;refine(Qj _).mono ?_;rintro e w2 ⟨rfl,rfl⟩);clear Pd;refine qc (cV un _) λw3 hx=>?_;have X3:=I (HX.trans hx);have C8:=I (HO1.ext hx);have LR:=X3.size;clear l0 l1 l2 c0 c1 c2 c3 c4 cf
  go_wp2_with (first
   | (at_builtin;refine Qt un 1 C8 X3 E9 λa5 n5 p5 w5 JU X5 Fj=>?_))
  go_roundg (g1-1)
  case measure=>exact ck
  exact OP
 have SA:N=k:=l8 HK.o;have FM:=I (show ZM A1 w (FB a1 n1 q1) (H5 t N jc 0)by rw[SA];exact HO1);obtain rfl:N=n1:=by have h1:=FM.rats.hlen;rw[lk]at h1;exact h1
 clear SA;go_wp2_with rfl;clear l0 l1 l2 c0 c1 c2 c3 c4 cf
 go_loopg [7] m (λgk ii wr=>∃i:Nat,e9 (gk+i=m)/\ii=U i/\e9 (ZM wr w (FB a1 N q1) (H5 t N jc i))/\e9 (D4 w wr))
 ·exact bk
 obtain⟨i,HI,rfl,HR,IX⟩:=hrel;have IN:=I (H.ext IX);have⟨l0,l1,l2,c0,c1,c2,c3,c4,cf⟩:=IN.cells;rw[MS.o]at c2;have Pa:=IX.size;by_cases hlt:i<m
 ·have⟨eb,D6,Kl,GI⟩:=IN.tb.Ku.basis.at hlt;subst Kl;have⟨bb,PN⟩:=j7 (t.basis[i]?.getD 0);rw[<-PN]at GI;have Hy:=I PN;have Pg:0<=bb/\bb<N+m:=by
   exact VX
  have hi0:=aE i;have hi1:=SW i m;clear PN;go_upto_region 9 with rfl;have r7:=D4.drew wr;have r8:=I λw' (h:D4 wr w')=>TX (h.o9 c1) (TX (h.o9 c2) (TX (h.o9 GI) h));refine kp r8 r7 λr9=>?_
  refine ta ⟨?_⟩;refine ST k8 ?_ _;have C5:=I (IX.trans r7);have HR3:=I (HR.ext r7);have Gn:∃x,x=wr.drew:=⟨_,rfl⟩;obtain⟨w3,Gn⟩:=Gn;rw[<-Gn]at C5 HR3;rw[<-Gn];clear r7 l0 l1 l2 c0 c1 c2 c3 c4 cf GI Gn r9;by_cases VE:bb<(N:Int)
  ·obtain⟨Z,hbN⟩:∃n:Nat,bb=n:=⟨bb.toNat,by omega⟩;subst hbN;have SG:Z<N:=by omega
   have⟨l0,l1,l2,c0,c1,c2,c3,c4,cf⟩:=H.cells;have⟨eb',Z9,PM,GI⟩:=H.tb.Ku.basis.at hlt;obtain⟨rfl,rfl⟩:=er PM;clear PM;rw[<-Hy.o]at GI;have⟨zb1,M5,ya,yn,yc,TJ,Hl,A4⟩:=H.tb.Ku.rows.at hlt;subst TJ;have Nb:yn=N+m+1:=by rw[<-A4.hlen];exact(HT.row i hlt).1
   have⟨F7,Mz⟩:=A4.ath;have⟨yb,F3,p,q,MT,Fw,Sq,Sp⟩:=A4.at (show jc<yn by omega);subst MT;have hjy:=SW jc yn;have hj0:=aE jc;have hbI:=SW Z N;have hbI0:=aE Z;have Gi:e9 (t.at i jc=(p,q)):=Fw;have NJ:-9223372036854775807<=p:=by have:=(HT.bounds.2 i jc).1;rw[Gi.o]at this;exact this
   have OD:p<=9223372036854775807:=by have:=(HT.bounds.2 i jc).2;rw[Gi.o]at this;exact this
   clear Fw A4 Nb Pg;obtain⟨G,hG,OH,_,_⟩:=HR3.block (k:=Z) SG;subst hG;go_upto_region 10 with rfl;have r7:=D4.drew w3;have r8:=I λw' (h:D4 w w')=>TX (h.o9 c0) (TX (h.o9 c1) (TX (h.o9 GI) (TX (h.o9 Hl) (TX (h.o9 Sq) (TX (h.o9 Sp) h)))));refine k6 (S:=(λw'=>w'.cell? (IM S 3)=some (FB (some (IM zb1 M5)) m rc)/\w'.cell? (IM S 4)=some (FB (some (IM eb D6)) m bc)/\w'.cell? (IM eb (D6+i))=some (U Z)/\w'.cell? (IM zb1 (M5+i))=some (FB (some (IM yb F3)) yn yc)/\w'.cell? (IM yb (F3+jc*2))=some (U p)/\w'.cell? (IM yb (F3+jc*2+1))=some (U q)/\D4 w w')) k8 ?_ (λr9=>?_)
   ·exact r8.o _ (C5.trans r7)
   refine ta ⟨?_⟩;refine Sv ⟨?_⟩;refine tk 18 ?_;refine tk 19 ?_;refine rd 20 λK hK=>?_;go_simp
   (go_at_call 180;refine i6 (eZ p q _ NJ OD) λN7 Jq=>?_;have r7:=r7.trans Jq;have RP:=I (HR3.ext r7);have⟨G',UW,g1v,g2v,JL,KF,Oh,MU⟩:=RP.rats.at SG;obtain⟨rfl,rfl⟩:=er JL;clear JL;rw[fs]at Oh MU;have⟨G2,hG2,agu,agi,agC⟩:=RP.block (k:=Z) SG;obtain rfl:=O2 hG2;clear hG2;clear KF)
   go_wp2_with rfl;refine KO (r8 _ (C5.trans r7)) λr9=>?_;refine tk 21 ?_;have Nq:=I (((C5.trans r7).setCell (p:=(IM G (Z*2))) OH (U (-p))).setCell (p:=(IM G (Z*2+1))) OH (U q));refine rd 22 λK hK=>?_;go_simp;refine KO (r8 _ Nq) λr9=>?_;refine ST k8 ?_ _;have NX:=I (show ZM ((N7.setCell (IM G (Z*2)) (U (-p))).setCell (IM G (Z*2+1)) (U q)) w (GT G N q1) (H5 t N jc (i+1))by
    rw[rE UM,<-Hy.o,eI,Gi.o];exact RP.set (k:=Z) (by rw[lk];exact SG) (-p) q)
   go_wp2_with rfl;refine Y6 ?_;exact⟨i+1,I (l8 HI.o),by go_num,NX,Nq⟩
  have NX:=I (show ZM w3 w (FB a1 N q1) (H5 t N jc (i+1))by rw[uB UM];exact HR3);clear Pg;exact QC
 have FA:m=i:=l8 HI.o;exact K0
end
section
def UC(h:σ:=by simp[results,results258,go_sem,q0,q1,q2,q3,q4,q5,q6,qf,bh]):σ:=h
def V'(h:σ:=by simp[results,results258,go_sem,q0,q1,q2,q3,q4,q5,q6,qf]):σ:=h
def VM(h:σ:=by rw[GN.o];omega):σ:=h
def Vq(h:σ:=by have:=B4.size;have:=XW1.size;have:=X7.size;omega):σ:=h
def M0(h:σ:=by simp[results,RW,go_sem,l0,l1,l2,l3,l4,l5,l6,lf',bh]):σ:=h
def Tp(h:σ:=by simp[results,RW,go_sem,l0,l1,l2,l3,l4,l5,l6,lf,bh]):σ:=h
def TM(h:σ:=by simp[results,KY,go_sem,l0,l1,l2,l3,l4,l5,l6,lf,bh]):σ:=h
def Q6(h:σ:=by simp[results,Gr,go_sem,l0,l1,l2,l3,l4,l5,l6,lf,bh]):σ:=h
def d'(h:σ:=by simp[results,RW,go_sem,l0,l1,l2,l3,l4,l5,l6,lf']):σ:=h
def PC(h:σ:=by have:=Oq.o;show k≠gB;omega):σ:=h
def Wk(h:σ:=by rw[HML.o];omega):σ:=h
def FN{w:J}{g:Nat}{a b c d e f h:atY}{t:TypeId}(hb:w.heap[g]?=some (SH #[a,b,c,d,e,f,h] t (0,0))):
 w.cell? (IM g 0)=some a/\w.cell? (IM g 1)=some b/\w.cell? (IM g 2)=some c/\w.cell? (IM g 3)=some d/\w.cell? (IM g 4)=some e/\w.cell? (IM g 5)=some f/\w.cell? (IM g 6)=some h/\∀k,w.frozen? (IM g k)=false:=by
 refine⟨?_,?_,?_,?_,?_,?_,?_,λk=>fy w g k _ _ hb⟩<;>rw[UV w g _ _ _ _ hb]<;>rfl
def D4.Hp{w w':J}(h:D4 w w'){b:Nat}(hb:w.heap.size<=b)(x0 x1 Z Q K H G:atY):
 D4 w (((((((w'.setCell (IM b 0) x0).setCell (IM b 1) x1).setCell (IM b 2) Z).setCell (IM b 3) Q).setCell (IM b 4) K).setCell (IM b 5) H).setCell (IM b 6) G) :=
 ((((((h.setCell (p:=(IM b 0)) hb _).setCell (p:=(IM b 1)) hb _).setCell (p:=(IM b 2)) hb _).setCell (p:=(IM b 3)) hb _).setCell (p:=(IM b 4)) hb _).setCell (p:=(IM b 5)) hb _).setCell (p:=(IM b 6)) hb _
def cv(w':J){b k:Nat}(h:k≠b)(x0 x1 Z Q K H G:atY):
 (((((((w'.setCell (IM b 0) x0).setCell (IM b 1) x1).setCell (IM b 2) Z).setCell (IM b 3) Q).setCell (IM b 4) K).setCell (IM b 5) H).setCell (IM b 6) G).heap[k]?=w'.heap[k]?:=by
 rw[If _ _ _ _ h,If _ _ _ _ h,If _ _ _ _ h,If _ _ _ _ h,If _ _ _ _ h,If _ _ _ _ h,If _ _ _ _ h]
structure Wu(w:J)(base g:Nat)(s:Int)(vx vy vr:atY)(p q piv:Int)(Y:o3):Prop where
 box:w.heap[g]?=some (SH #[U s,vx,vy,vr,U p,U q,U piv] 128 (0,0))
 hg:base<=g
 y:ZM w base vy Y
section
variable{w:J}{base g:Nat}{s:Int}{vx vy vr:atY}{p q piv:Int}{Y:o3}
theorem Wu.ext{w':J}(h:Wu w base g s vx vy vr p q piv Y)(hx:D4 w w'):Wu w' base g s vx vy vr p q piv Y:=⟨(hx.block _ (IO h.box)).trans h.box,h.hg,h.y.ext hx⟩
theorem Wu.agP{H G:J}(h:Wu w base g s vx vy vr p q piv Y)(hx:D4 w H)(hg:H.grownBy G vy.ownBlock):G.heap[g]?=some (SH #[U s,vx,vy,vr,U p,U q,U piv] 128 (0,0)) :=
 (hg.block g (IO (h.ext hx).box) (aq (h.ext hx).y (h.ext hx).box FS)).trans (h.ext hx).box
theorem Wu.aek{K H:J}(h:Wu w base g s vx vy vr p q piv Y)(hx:D4 w K){G:atY}{Y':o3}(Z:K.grownBy H vy.ownBlock)(ho:ZM H base G Y'):
 Wu (H.setCell (IM g 2) G) base g s vx G vr p q piv Y':=by
 have Q:=h.agP hx Z;refine⟨?_,h.hg,bg ho Q FS⟩;have:=aM H g 2 _ _ G Q;exact this
end
def Kd(B:o7)(G:o3){n i z:Nat}{e d:o8}{OL:Bool}{H:Int}(hz:z=n+i)(K:G[z]?.getD (0,0)=e)(Q:FD (1,1) e=(d,OL))(hb:B[i]?.getD 0=H):gY B (1,1) G n i=if OL=true then some (Je H d) else none:=by
 unfold gY;rw[<-hz,K,Q,hb]
def o0(w:J)(base:Nat)(e:Ending)(o:Option I'):Prop:=match o with
 | some r=>∃xa xn xc ya yn yc ra rn rc,e=atn (.tuple #[JA r xa xn xc ya yn yc ra rn rc,ato true])/\KR w base xa xn xc ya yn yc ra rn rc r
 | none=>∃r xa xn xc ya yn yc ra rn rc,e=atn (.tuple #[JA r xa xn xc ya yn yc ra rn rc,ato false])
section
variable{w:J}{a:o6}{na ca:Nat}{b:o6}{nb cb:Nat}{c:o6}{nc cc:Nat}{A:o4}{B:o7}{C:o3}
def TN(h:σ:=by
 rintro e w9 ⟨rfl,hx⟩;have GL:=I (FJ.grow hx);clear hx g0 g1' gf;have g0:=GL.c0;have g1':=GL.c1;have gf:=GL.free;go_wp2;go_meet;exact⟨rfl,I (GL.put _ _)⟩
 ):σ:=h
theorem O9(h:L6 w a na ca b nb cb c nc cc A B C)(ok:FT A B C=true):
 Calls prog 206 #[JI a na ca b nb cb c nc cc] w λe w'=>o0 w' w e (Ih A B C)/\D4 w w':=by
 have TI:=I (jW ok);have⟨r1,r2,r3,r4,r5,r6⟩:=dL h ok;subst r3;have B9:=(D4.alloc w (bT a nb ca b nb cb c nc cc)).trans (D4.alloc _ (SH #[U 0,d9,d9,d9,U 0,U 0,U 0] 128));have⟨W,hW⟩:=j7 ((w.alloc (bT a nb ca b nb cb c nc cc)).alloc (SH #[U 0,d9,d9,d9,U 0,U 0,U 0] 128));rw[<-hW]at B9;refine y5 B9 (h.ext B9) ok (show W.heap[w.heap.size+1]?=some (SH #[U 0,d9,d9,d9,U 0,U 0,U 0] 128 (0,0))by rw[hW];exact LE j9) (show W.heap[w.heap.size]?=some (SH #[FB a nb ca,FB b nb cb,FB c nc cc] 124 (0,0))by rw[hW,wZ j9];exact LE rfl) (show W.heap.size=w.heap.size+1+1 by rw[hW];simp) λB4 H Ho Gj HTB J'=>?_;have⟨Wn,QQ⟩:=h.a.ath;have⟨Gm,F0⟩:=h.b.ath;have⟨FQ,IH⟩:=h.c.ath;refine Fn h.a.hlen h.b.hlen h.c.hlen λJc Hj Ji=>?_;clear h B9 ok r4 r5 r6;have Hx:=I (λ(w':J) (hx:D4 W w')=>ul (H.ext hx) Ho);go_in
 go_upto_region 1 with rfl;rw[<-hW];clear hW;have p1:=aJ HTB.o;have p2:=aK HTB.o;have r7:=D4.drew W;have r7:=D4.drew W;have Fu:=r7;have r8:=I (λ(w':J) (h:D4 W w')=>(an (h.o9 p1) (an (h.o9 p2) h)))
 go_region_held3 (λw'=>w'.cell? (IM w 1)=some (FB b nb cb)/\w'.cell? (IM w 2)=some (FB c nc cc)/\D4 W w')
  (with_reducible exact r8.o _ r7)
  (fail)
 clear Fu;have X1:=I r7;clear r7 p1 p2;have⟨p0,p1,p2⟩:=mc (X1.blk HTB);go_wp2_with rfl;refine(Hx _ X1).mono ?_;rintro e w1 ⟨⟨va,vb,vs,rfl,ho⟩,hx⟩;obtain⟨a7,n7,c7,rfl,Ma⟩:=ho.a.var;obtain⟨a8,n8,c8,rfl,OU⟩:=ho.b.var;have⟨E,hE⟩:=j7 (w1.alloc (SH #[FB a7 n7 c7,FB a8 n8 c8,U nc,U 0,ato false] 236));have Ic:D4 w1 E:=by rw[hE];exact ZL
 have XW1:=I (X1.trans hx);have XE:=I Ic;have HS:=I (show eA E w1 a7 n7 c7 a8 n8 c8 vs (cG A B nc) 0 false from
  ⟨by rw[hE];exact LE rfl,(ho.ext Ic).mono (ef _)⟩)
 have hmk:=jk nc O;have HZ:=I (show y9 (E.alloc (SH (bF (List.replicate nc 0)) 3)) 0 (GT E nc nc) (List.replicate nc 0)from
  (show kg (E.alloc (SH (bF (List.replicate nc 0)) 3)) E 3 (List.replicate nc 0)from nE _ _).own (ef _) j9 O)
 have⟨F,hFq⟩:=j7 (E.alloc (SH (bF (List.replicate nc 0)) 3));have XF:=I (show D4 E F by rw[hFq];exact ZL);rw[<-hFq]at HZ;clear ho hx Ic p0 p1 p2;go_upto_region 3 with rfl;rw[<-hE];clear hE;go_upto_region 4 with rfl;rw[<-hFq];clear hFq hmk
 have HZR:=I (show eV (List.replicate nc 0)=List.replicate nc ((0:Int),(1:Int))by
  rw[gO (by intro x hx;rw[J3]at hx;omega)];simp[aI])
 have L8:=I (jN HZ.ints O);rw[HZR.o]at L8;go_wp2_with rfl;refine hF L8 λw3 v3 Gw hx=>?_;obtain⟨a3,n3,c3,rfl,NB⟩:=Gw.var;have Nw:n3<=70:=by have:=NB.o;rw[yl]at this;omega
 refine Fn (XF.trans hx) (HZ.ext hx) (vm Gw.rats 1 nb O O) λX3 HZ3 MS=>?_;clear Gw NB;go_wp2_with rfl;refine hF MS λw4 v4 Jd hx=>?_;obtain⟨a4,n4,c4,rfl,HN4⟩:=Jd.var;have X4:=I (X3.trans hx);have HZ4:=I (HZ3.ext hx);have Qy:=I (HS.ext X4);have Qb:=I (gv Qy.o (show Gy nc nb _ (cG A B nc)by have h1:=TI.o;rw[Ji.o,Jc.o]at h1;exact h1) O O O Jd);have RU:=I (show List.replicate nc ((0:Int),(1:Int))++List.replicate nb (1,1)=eT (Lp C) (Lp B) by unfold eT;rw[Ji.o,Hj.o]);clear Jd HN4;go_wp2_with rfl;refine Qb.mono ?_;rintro e w5 ⟨Og,ra5,rn5,rc5,ba5,bn5,bc5,vs5,Vv⟩;have⟨o1,TZ⟩:=j7 (bD (eT (Lp C) (Lp B)) 1000 (cG A B (Lp C)));have Zo:bD (List.replicate nc ((0:Int),(1:Int))++List.replicate nb (1,1)) (1000-0) (cG A B nc)=o1:=by rw[TZ,RU.o,Ji.o]
 rw[Zo]at Vv;refine Fn TZ (HZ4.mod Og Qy.box) (show D4 w1 w5 from Og.ext (XE.trans X4) (m9 _)) λHO1 HZ5 X5=>?_;clear Zo TZ;cases o1 with
 | none =>
   obtain⟨v5,col5,t5,n5,rfl,MD⟩:=Vv;have Lt:=I MD;clear MD Og;have⟨c0,c1,c2,c3',c4',cf⟩:=Lt.cells;have Jn:=I (show Ih A B C=none by unfold Ih;rw[<-HO1.o];rfl);have XW5:=I ((XW1.o).trans X5);have⟨l0,l1,l2,l3,l4,l5,l6,lf⟩:=FN (XW5.blk Gj);go_wp2;refine GE (v:=.tuple #[JA (bh 0) none 0 0 none 0 0 none 0 0,ato false]) Tp rfl ⟨?_,(B4.trans XW5).Hp (bq _) _ _ _ _ _ _ _⟩;rw[Jn.o];exact⟨bh 0,none,0,0,none,0,0,none,0,0,rfl⟩
 | some q1 =>
   obtain⟨v5,rfl,Of,MD⟩:=Vv;obtain⟨a5,n5,c5,rfl,JU⟩:=Of.var;have Lt:=I MD;have ab:=I Of;have hinv:=eG TI.o HO1.symm;have HQT:=I (show Gy nc nb _ q1.t by have h1:=hinv.1;rw[Ji.o,Jc.o]at h1;exact h1);have HQC:=I (fq HQT.o hinv.2.1).1;have hql:=hinv.2.2;clear MD Of Og hinv;have⟨u,hu⟩:=j7 (nc+nb);have HU:=I hu;obtain rfl:n5=u+1:=by have h1:=JU.o;rw[HQC.1]at h1;omega
   have hu78:u<=78:=O;have Mj:((u+1:Nat):Int)-1=(u:Int):=O;have⟨zb,Gd,lx,ly,Lf,R1,Hl,Mh⟩:=ab.rats.at (show u<u+1 by omega);subst Lf;have⟨hr5a,hr5b⟩:=ab.rats.ath;have NC:=I (show q1.costs[Lp C+B.length]?.getD (0,0)=(lx,ly)by rw[Ji.o,Hj.o,<-HU.o];exact R1);have⟨c0,c1,c2,c3',c4',cf⟩:=Lt.cells;have XW5:=I ((XW1.o).trans X5);clear R1 hu;by_cases Iy:lx<0
   ·have Qc:=I (show Ih A B C=(Nm (gY B (1,1) q1.costs (Lp C)) (Lp B)).map λY=>⟨2,[],Y,[],(0,0),1000-q1.left⟩by
     unfold Ih;rw[<-HO1.o];simp only[kx];rw[NC.o,i7 Iy])
    obtain⟨pv,MF⟩:∃p:Int,p=((1000-q1.left:Nat):Int):=⟨_,rfl⟩;rw[<-MF]at c3';have adU:=I (show(1000:Int)-(q1.left:Int)=pv by rw[MF];omega);clear MF;have⟨E9,hE9⟩:=j7 (w5.alloc (SH #[U 2,d9,d9,d9,U 0,U 0,U pv] 128));have X9:=I (show D4 w5 E9 by rw[hE9];exact ZL)
    have Pt:=I (show Wu E9 w5 w5 2 d9 (d9) d9 0 0 pv []by
     rw[hE9];exact⟨LE rfl,m9 _,og⟩)
    go_upto_region 9 with rfl;rw[<-hE9];clear hE9 c0 c1 c2 c3' c4' cf Hl Mh;go_wp2
    go_loopg [64] nb (λgk ii wr=>∃(k:Nat) (vy:atY) (Y:o3),e9 (gk+k=nb)/\ii=U k/\e9 (Nm (gY B (1,1) q1.costs (Lp C)) k=some Y)/\e9 (Wu wr w5 w5 2 d9 vy d9 0 0 pv Y)/\e9 (D4 w5 wr))
    ·exact⟨0,_,[],I O,rfl,I rfl,Pt,X9⟩
    obtain⟨k,vy,Y,HK,rfl,HY,HL,af⟩:=hrel;have hsr:=af.size;have Wq:=I (XW5.trans af);by_cases al:k<nb
    ·have⟨z,hz⟩:=j7 (nc+k);have hzu:z<u+1:=by have:=HU.o;omega
     have⟨zb',WI,Z,ey,PE,Wk,GI,LX⟩:=(ab.ext af).rats.at hzu;obtain⟨rfl,rfl⟩:=er PE;clear PE;obtain⟨d1,d2,OL,hdd⟩:∃x y ok,FD (1,1) (Z,ey)=((x,y),ok):=⟨_,_,_,rfl⟩;have Mb:=I hdd;have⟨bb,NU,hba,I7⟩:=(H.ext Wq).b.at al;subst hba;have⟨bi,Jh⟩:=j7 (B[k]?.getD 0);rw[<-Jh]at I7;have Q6:=I Jh;have V3:e9 (gY B (1,1) q1.costs (Lp C) k=if OL=true then some (Je bi (d1,d2)) else none):=Kd B q1.costs (by rw[Ji.o];exact hz) Wk hdd Jh.symm;have p1:=aJ (Wq.blk HTB);have hwr:=qj ((nc:Int)+(k:Int)) (z:Int);have YZ:=aE z;have YY:(z:Int)<((u+1:Nat):Int):=O;have hz2':(z:Int)<(u:Int)+1:=O;clear Wk hdd Jh hz;go_upto_region 12 with rfl;go_upto_region 12 with rfl
     go_cut [12,13] (λsx so wx=>∃g:Nat,sx=ats (some (IM g 0))/\so=ato OL/\e9 (ai wr wx g d1 d2))
     case first =>
      have r7:=D4.drew wr;have Fu:D4 wr (wr.alloc (SH #[U 0,U 0] 80)).drew:=ZL.trans fl;have r8:=I (λ(w':J) (h:D4 wr w')=>(an (h.o9 GI) (an (h.o9 LX) h)))
      go_region_held3 (λw'=>w'.cell? (IM zb (Gd+z*2))=some (U Z)/\w'.cell? (IM zb (Gd+z*2+1))=some (U ey)/\D4 wr w')
       (exact yg)
       (first
         | ((with_reducible refine(cW 1 _).mono ?_)
            rintro e w7 ⟨rfl,Gr⟩
            try with_reducible first|have A7:=ai.grow A7 Gr|have A7:=ai.Fk Gr|have A7:=ai.Fq r7 Gr
            try(have Ko:=A7.c0;have Kn:=A7.c1;have L4:=A7.free)
            have r7:D4 wr w7:=Zg;have G7:=r7.size)
         | ((with_reducible refine(ng 1 1 Z ey _).mono ?_)
            rw[Mb.o];rintro e w8 ⟨rfl,Hm⟩
            try with_reducible first|have A7:=ai.grow A7 Hm|have A7:=ai.Fk Hm|have A7:=ai.Fq r7 Hm
            try(have Ko:=A7.c0;have Kn:=A7.c1;have L4:=A7.free)
            have r7:D4 wr w8:=Qz;have G7:=r7.size))
      all_goals(exact yx)
     obtain⟨g,rfl,rfl,FJ⟩:=hcut;have U2:=I (Wq.trans FJ.ext);clear hwr YZ YY hz2' GI LX p1 I7;cases OL
     ·have Jn:e9 (Nm (gY B (1,1) q1.costs (Lp C)) (Lp B)=none):=fB HY.o (by rw[V3.o];rfl) (by rw[Hj.o];exact al);have⟨l0,l1,l2,l3,l4,l5,l6,lf⟩:=FN (U2.blk Gj);go_wp2;refine GE (v:=.tuple #[JA (bh 0) none 0 0 none 0 0 none 0 0,ato false]) Tp rfl ⟨?_,(B4.trans U2).Hp (bq _) _ _ _ _ _ _ _⟩;rw[Qc.o,Jn.o];exact⟨bh 0,none,0,0,none,0,0,none,0,0,rfl⟩
     have p1:=aJ (U2.blk HTB);have⟨bb',ald,ZK,I7⟩:=(H.ext U2).b.at al;obtain⟨rfl,rfl⟩:=er ZK;clear ZK;rw[<-Q6.o]at I7;refine Fn (HL.ext FJ.ext) (af.trans FJ.ext) (eg (x:=Je bi (d1,d2)) HY.o (by rw[V3.o];rfl)) λHL2 C7 HY2=>?_;obtain⟨e1,LQ⟩:∃e1,Je bi (d1,d2)=(e1,d2):=by unfold Je D2;split<;>exact⟨_,rfl⟩
     have MY:=I LQ;have hdb:=aV (p:=(d1,d2)) (by have h1:=(pW (a:=(1,1)) (b:=(Z,ey)) (by rw[Mb.o])).2.2.1;rw[Mb.o]at h1;exact h1);have Pe:-9223372036854775807<=d1:=by have:=hdb.2.2.1;simp only at this;omega
     have RA:d1<=9223372036854775807:=by have:=hdb.2.2.2;simp only at this;omega
     clear LQ hdb;go_upto_if 86 with rfl
     go_cut [6] (λs6 wx=>s6=ats (some (IM w1 0))/\e9 (ai wr wx g e1 d2))
     case first =>
      have g0:=FJ.c0;have g1':=FJ.c1;have gf:=FJ.free;by_cases OG:bi<0
      ·have LX:e1=-d1:=by have:=MY.o;unfold Je D2 at this;rw[i7 OG]at this;exact(IR Prod.fst this).symm
       subst LX;rw[show decide (bi<0)=true from bl OG];go_wp2_with rfl;refine(fc d1 d2 _ Pe RA).mono ?_;exact TN
      exact k3
     obtain⟨rfl,F1⟩:=hcut;have Nu:=I (HL.ext F1.ext);have Hh:=I (af.trans F1.ext);have g0:=F1.c0;have g1':=F1.c1;have y2:=(FN Nu.box).2.2.1;have LW:=F1.lt;have hlb:=IO Nu.box;have LR:=Hh.size;have OQ:=I (cZ HY);clear p1 I7
     go_wp2_with (first
      | (at_builtin;refine cH rfl _ _ rfl w5 vy _ rfl (Nu.y.ext ZL) _ 1 _ [(e1,d2)] rfl (z6 j9) Yw t8 ?_;intro v9 w9 ho hg r';obtain⟨a9,n9,q9,rfl,Qe⟩:=ho.var;have Il:=I ho;have Tv:=I hg;have Gu:=Nu.agP ZL hg;have c09:=(FN Gu).2.2.1;have UY:=(FN Gu).2.2.2.2.2.2.2;have Pj:D4 w5 w9:=aj (D4.trans Hh.o ZL) hg (λj hj=>(Nu.y.lt j hj).1);clear ho hg r' Gu))
     have Mn:=I (Nu.aek ZL Tv.o Il);have C5:=I (Pj.setCell (p:=(IM w5 2)) (m9 _) (FB a9 n9 q9));refine dk ?_;exact⟨k+1,_,_,I (l8 HK.o),by go_num,HY2,I (by rw[MY.o];exact Mn),C5⟩
    have E':nb=k:=l8 HK.o;subst E';obtain⟨ay,ny,cy,rfl,HNY⟩:=HL.y.var;have⟨m0,m1,m2,m3,m4,m5,m6,mf⟩:=FN HL.box;have⟨l0,l1,l2,l3,l4,l5,l6,lf⟩:=FN (Wq.blk Gj);have Q0:=I (show Ih A B C=some ⟨2,[],Y,[],(0,0),pv⟩by rw[Qc.o,Hj.o,HY.o,tv,adU.o]);have Qr:=IO HL.box;go_wp2;refine GE (v:=.tuple #[JA ⟨2,[],Y,[],(0,0),pv⟩ none 0 0 ay ny cy none 0 0,ato true]) (by simp[results,RW,go_sem,l0,l1,l2,l3,l4,l5,l6,lf]) rfl ⟨?_,(B4.trans Wq).Hp (bq _) _ _ _ _ _ _ _⟩;rw[Q0.o];refine⟨none,0,0,ay,ny,cy,none,0,0,rfl,?_,?_,?_⟩
    ·exact λW _=>i8.PC W
    ·exact(HL.y.keep λi hi=>cv _ (by have:=(HL.y.lt i hi).1;have:=XW5.size;have:=J'.o;omega) _ _ _ _ _ _ _).Ld (by have:=B4.size;have:=XW1.size;have:=X5.size;omega)
    exact λW _=>i8.PC W
   have Qc:=I (show Ih A B C=(bP (Lp C) (q1.t,q1.left) (Lp B)).bind λs=>(bD (dA C (Lp B)) s.2 s.1).map λp2 =>
    if 0<=p2.Fm then⟨3,(H8 p2.t).take (Lp C),[],H5 p2.t (Lp C) p2.Fm.toNat (Lp B),(0,0),1000-p2.left⟩
    else⟨1,(H8 p2.t).take (Lp C),(List.range (Lp B)).map (eP B p2.costs (Lp C)),[],D2 (p2.costs[Lp C+B.length]?.getD (0,0)),1000-p2.left⟩by
    unfold Ih;rw[<-HO1.o];simp only[kx];rw[NC.o,f8 O])
   have Sb:e9 (eA w5 w1 _ _ _ _ _ _ vs5 q1.t (1000-q1.left) false):=Lt;have HD0:e9 (bP nc (q1.t,q1.left) 0=some (q1.t,q1.left)):=I (rfl);have af6:=IO Sb.box;have HQL:=I hql;go_upto_region 20 with rfl;clear c0 c1 c2 c3' c4' cf Hl Mh hr5a hr5b hql;go_wp2
   go_loopg [98] nb (λgk ii wr=>∃(k:Nat) (tt:Tb) (lf:Nat) (ra:o6) (rn rc:Nat) (ba:o6) (bn bc:Nat) (vs:List atY),e9 (gk+k=nb)/\ii=U k/\e9 (bP nc (q1.t,q1.left) k=some (tt,lf))/\e9 (eA wr w1 ra rn rc ba bn bc vs tt (1000-lf) false)/\e9 (aR w1 w5 wr))
   ·exact⟨0,_,_,_,_,_,_,_,_,_,I O,rfl,HD0,Sb,I (aR.refl _ _)⟩
   rename Nat=>g1;rename J=>A1;obtain⟨k,tt,lf,ra,rn,rc,ba,bn,bc,vs,HK,rfl,HD,Nr,HM⟩:=hrel;have hdi:=gX (s:=(q1.t,q1.left)) HQT.o HD.o;have ad:e9 (Gy nc nb _ tt):=hdi.1;have hlf:lf<=1000:=by have h1:=hdi.2;have h2:=HQL.o;simp only at h1;omega
   have hl1:=IO Nr.box;have J2:=HM.size;have⟨c0,c1,c2,c3,c4,cf⟩:=Nr.cells;have Kk:rn=nb:=by have h1:=Nr.tb.Ku.rows.hlen;have h2:=ad.len;omega
   have OG:bn=nb:=by have h1:=Nr.tb.Ku.basis.hlen;have h2:=ad.KN;omega
   subst Kk;subst OG;clear hdi;by_cases al:k<bn
   ·have⟨eb,D6,Kl,GI⟩:=Nr.tb.Ku.basis.at al;subst Kl;have⟨b,hb⟩:=j7 (tt.basis[k]?.getD 0);rw[<-hb]at GI;have HB:=I hb;clear hb;by_cases VE:b<(nc:Int)
    ·have HD1:=I (sz HD.o (by rw[<-HB.o];exact VE));go_wp2_with rfl;refine gy ?_;exact⟨k+1,tt,lf,_,_,_,_,_,_,_,I (l8 HK.o),by go_num,HD1,Nr,HM⟩
    have VT:=I (show¬tt.basis[k]?.getD 0<nc by rw[<-HB.o];exact VE);have hqj:=ad.row k al;have GN:=I hqj.1;clear hqj
    go_upto_block 4 with rfl
    go_cut [] (λwx=>N5 w1 A1 wx ((bP nc (q1.t,q1.left) (k+1)).map λx=>(x.1,1000-x.2)))
    case first =>
     go_wp2
     go_loopg [112] nc (λgk jj wr=>∃j:Nat,e9 (gk+j=nc)/\jj=U j/\e9 (((tt.row k).take j).all (λc=>!Kj c)=true)/\e9 (D4 A1 wr))
     ·exact FC
     obtain⟨j,HJ,rfl,HA,C7⟩:=hrel;clear c0 c1 c2 c3 c4 cf GI;have IN:=I (Nr.ext C7);have⟨c0,c1,c2,c3,c4,cf⟩:=IN.cells;by_cases Hn:j<nc
     ·have⟨zb1,M5,ya,yn,yc,TJ,Hl,A4⟩:=IN.tb.Ku.rows.at al;subst TJ;have Nb:yn=nc+bn+1:=by rw[<-A4.hlen];exact GN
      have⟨F7,Mz⟩:=A4.ath;have⟨yb,F3,p,q,MT,Fw,Sq,Sp⟩:=A4.at (show j<yn by omega);subst MT;have hjy:=SW j yn;have Gi:e9 ((tt.row k)[j]?.getD (0,0)=(p,q)):=Fw;clear Fw A4 Nb;go_upto_region 27 with rfl
      go_cut [127] (λs127 wx=>s127=ato (Kj (p,q))/\e9 (D4 wr wx))
      case first =>
       cases h1:(p == 0)
       all_goals
        cases h2:(q == 1)
       all_goals
        have HE8:=I (lr p q);rw[h1,h2]at HE8;have r7:=D4.drew wr;have Fu:=r7;have r8:=I (λ(w':J) (h:D4 wr w')=>(an (h.o9 c0) (an (h.o9 Hl) (an (h.o9 Sq) (an (h.o9 Sp) h)))))
        go_region_held3 (λw'=>w'.cell? (IM w1 0)=some (FB (some (IM zb1 M5)) bn rc)/\w'.cell? (IM zb1 (M5+k))=some (FB (some (IM yb F3)) yn yc)/\w'.cell? (IM yb (F3+j*2))=some (U p)/\w'.cell? (IM yb (F3+j*2+1))=some (U q)/\D4 wr w')
         (with_reducible exact r8.o _ r7)
         (first
           | ((with_reducible refine(cW 0 _).mono ?_)
              rintro e w7 ⟨rfl,Gr⟩;have r7:D4 wr w7:=r7.trans Gr;have hs_w7:=r7.size))
        clear Fu;go_wp2;go_meet;exact⟨by rw[HE8.o];rfl,I r7⟩
      obtain⟨rfl,Sa⟩:=hcut;have Hh:=I (C7.trans Sa);have MZ:=I (IN.ext Sa);clear c0 c1 c2 c3 c4 cf Hl Sq Sp;cases hwu:Kj (p,q)
      ·have Fj:=I (vG VM Gi.o HA.o hwu);clear hwu;exact Uc
      have N4:=I (su HD.o (l8 VT.o) Hn VM HA.o (by rw[Gi.o];exact hwu) hlf);have OS:=I (Aw MZ.o ad.o O O O (k:Int) (j:Int));clear hwu;go_wp2_with rfl;refine qc OS λw6 hl6=>?_;have Qf:=I (N5.more Hh.o hl6);go_wp2;go_meet;rw[N4.o];exact Qf
     have JK:nc=j:=l8 HJ.o;have N4:=I (sy HD.o (l8 VT.o) (by rw[JK];exact HA));clear JK;go_wp2;go_meet;rw[N4.o];exact⟨aR.of C7.o,_,_,_,_,_,_,_,IN⟩
    obtain⟨hmc,TB,TA,rc',ba',Ud,bc',vs',FU⟩:=hcut;have HMC:=I (HM.trans hmc);clear hmc c0 c1 c2 c3 c4 cf GI;cases hd:bP nc (q1.t,q1.left) (k+1)with
    | none =>
      rw[hd]at FU;obtain⟨t',n',hs'⟩:=FU;have HSF:=I hs';have Jn:=I (show Ih A B C=none by rw[Qc.o,Ji.o,Hj.o,oM hd O];rfl);clear hs' hd;have⟨c0,c1,c2,c3,c4,cf⟩:=HSF.cells;have Wq:=I (HMC.ext XW5.o (l8 XW1.size));have⟨l0,l1,l2,l3,l4,l5,l6,lf'⟩:=FN (Wq.blk Gj);go_wp2;refine GE (v:=.tuple #[JA (bh 0) none 0 0 none 0 0 none 0 0,ato false]) M0 rfl ⟨?_,(B4.trans Wq).Hp (bq _) _ _ _ _ _ _ _⟩;rw[Jn.o];exact⟨bh 0,none,0,0,none,0,0,none,0,0,rfl⟩
    | some st =>
      obtain⟨t',f'⟩:=st;rw[hd]at FU;have HD':=I hd;have HSF:e9 (eA wc w1 TB TA rc' ba' Ud bc' vs' t' (1000-f') false):=FU;clear FU hd;have⟨c0,c1,c2,c3,c4,cf⟩:=HSF.cells;go_wp2_with rfl;refine gy ?_;exact⟨k+1,t',f',_,_,_,_,_,_,_,I (l8 HK.o),by go_num,HD',HSF,HMC⟩
   have E':bn=k:=l8 HK.o;subst E';have Wq:=I (HM.ext XW5.o (l8 XW1.size));have HZR1:=I (HZ5.mod HM.o Sb.box);have p2:=aK (Wq.blk HTB);have ahH:=I (vm (H.ext Wq).c 0 bn O O);clear c0 c1 c2 c3 c4 cf;go_wp2_with rfl;refine hF ahH λw6 v6 Ll hx=>?_;obtain⟨a6,n6,c6,rfl,Jy⟩:=Ll.var;refine Fn (Nr.ext hx) (Wq.trans hx) (HZR1.ext hx) λHS6 X6 HZ6=>?_;have aaF:=I (gv HS6.o ad.o O O O Ll);have Lb:=I (show C++List.replicate bn ((0:Int),(1:Int))=dA C (Lp B) by unfold dA;rw[Hj.o]);clear Ll Jy p2;go_wp2_with rfl;refine aaF.mono ?_;rintro e w7 ⟨hm7,ra7,rn7,rc7,ba7,bn7,bc7,vs7,hp7⟩;have⟨o2,Is⟩:=j7 (bD (dA C (Lp B)) lf tt);have Zo:bD (C++List.replicate bn ((0:Int),(1:Int))) (1000-(1000-lf)) tt=o2:=by rw[Is,Lb.o,show 1000-(1000-lf)=lf by omega]
   rw[Zo]at hp7;refine Fn Is (HZ6.mod hm7 HS6.box) (show D4 W w7 from hm7.ext X6.o (l8 XW1.size)) λaa HZ7 X7=>?_;clear Zo Is hm7;cases o2 with
   | none =>
     obtain⟨v7,col7,t7,n7',rfl,Tg⟩:=hp7;have Qx:=I Tg;clear Tg;have⟨c0,c1,c2,c3,c4,cf⟩:=Qx.cells;have Jn:=I (show Ih A B C=none by rw[Qc.o,Ji.o,Hj.o,HD.o,kx];simp only;rw[show dA C bn=dA C B.length by rw[Hj.o],<-aa.o];rfl);have⟨l0,l1,l2,l3,l4,l5,l6,lf'⟩:=FN (X7.blk Gj);go_wp2;refine GE (v:=.tuple #[JA (bh 0) none 0 0 none 0 0 none 0 0,ato false]) M0 rfl ⟨?_,(B4.trans X7).Hp (bq _) _ _ _ _ _ _ _⟩;rw[Jn.o];exact⟨bh 0,none,0,0,none,0,0,none,0,0,rfl⟩
   | some q2 =>
     obtain⟨v7,rfl,Sz,Tg⟩:=hp7;obtain⟨a10,n10,c10,rfl,adZ⟩:=Sz.var;have Qx:=I Tg;have Kb:=I Sz;have hinv:=eG ad.o aa.symm;have HT:=I hinv.1;have VN:=I (fq HT.o hinv.2.1).1;have ahh:=I hinv.2.2;have Nj:=vK ad.o aa.symm;have Q0:=I (show Ih A B C=some (if 0<=q2.Fm then⟨3,(H8 q2.t).take nc,[],H5 q2.t nc q2.Fm.toNat bn,(0,0),1000-q2.left⟩
      else⟨1,(H8 q2.t).take nc,(List.range bn).map (eP B q2.costs nc),[],D2 (q2.costs[nc+bn]?.getD (0,0)),1000-q2.left⟩)by
      rw[Qc.o,Ji.o,Hj.o,HD.o,kx];simp only;rw[show dA C bn=dA C B.length by rw[Hj.o],<-aa.o];rfl)
     have hb7:bn=bn7:=by have h1:=Tg.tb.Ku.basis.hlen;have h2:=HT.KN;omega
     have hr7:bn=rn7:=by have h1:=Tg.tb.Ku.rows.hlen;have h2:=HT.len;omega
     subst hb7;subst hr7;clear Tg Sz hinv;have hn10:n10=u+1:=by have h1:=adZ.o;rw[VN.1]at h1;have:=HU.o;omega
     have HN1:=I hn10;have⟨hr10a,hr10b⟩:=Kb.rats.ath;clear hn10;have⟨c0,c1,c2,c3,c4,cf⟩:=Qx.cells;obtain⟨pv,MF⟩:∃p:Int,p=((1000-q2.left:Nat):Int):=⟨_,rfl⟩;have adU:=I (show(1000:Int)-(q2.left:Int)=pv by have:=ahh.o;rw[MF];omega);have HPVC:=I MF.symm;clear MF;have aha:=I (xM Qx.tb.Ku O (HT.ok O));have QM:Lp (H8 q2.t)=nc+bn:=by
      unfold H8;rw[i7 (HT.ok O),ls,HT.A',HT.len];simp
     have Hi:=I QM;clear QM;have⟨qcq,hqc⟩:=j7 q2.Fm;rw[<-hqc]at Nj Q0⊢;clear hqc;go_wp2_with rfl;refine hF aha λw8 v8 Kv hx=>?_;obtain⟨ax,nx,cx,rfl,HNX⟩:=Kv.var;have hnx:nx=nc+bn:=by have h1:=HNX.o;rw[Hi.o]at h1;omega
     refine kv hx Kv (Qx.ext hx) (HZ7.ext hx) (X7.trans hx) λMX HOX Un OP X8=>?_;have⟨OF,hcx2⟩:=Kv.rats.ath;have hcx3:(nc:Int)<=(cx:Int):=O;clear Kv hnx OF c0 c1 c2 c3 c4 cf;have hs8:=X8.size;rcases Nj with hc|⟨jc,hc,hjc⟩
     ·subst hc;have K8:=I (show Ih A B C=some ⟨1,(H8 q2.t).take nc,(List.range bn).map (eP B q2.costs nc),[],D2 (q2.costs[nc+bn]?.getD (0,0)),pv⟩by
       rw[Q0.o,f8 O,adU.o])
      have ao:IntKind.i64.wrap ((n10:Int)-1)=(u:Int):=by have:=HN1.o;rw[j0];omega
      have HC8:=I (Kb.ext MX);have⟨yb,F3,vx,vy,MT,R1,JB,F7⟩:=HC8.rats.at (show u<n10 by have:=HN1.o;omega);subst MT;have Ha:=VN.2 u (l8 HU.o);rw[R1]at Ha;have Ha:=aV Ha;have acK:-9223372036854775807<=vx:=by have:=Ha.2.2.1;simp only at this;omega
      have acJ:vx<=9223372036854775807:=by have:=Ha.2.2.2;simp only at this;omega
      have Hb:=I (show D2 (q2.costs[nc+bn]?.getD (0,0))=(-vx,vy)by rw[<-HU.o,R1];rfl);have⟨c0,c1,c2,c3,c4,cf⟩:=Un.cells;rw[HPVC.o]at c3;have LP:(u:Int)<(n10:Int):=l8 HN1.o;have Li:=aE u;clear R1 Ha;go_upto_region 47 with rfl
      go_cut [21] (λsx wx=>∃g:Nat,sx=ats (some (IM g 0))/\e9 (MW w8 wx g 1 (FB ax nc cx) d9 (d9) (-vx) vy pv))
      case first =>
       have r7:=D4.drew w8;have r8:=I λw' (h:D4 w8 w')=>TX (h.o9 JB) (TX (h.o9 F7) (TX (h.o9 c3) h));refine kp r8 r7 λr9=>?_;refine ks ⟨?_⟩;refine Mp ⟨?_⟩;refine tk 8 ?_;refine tk 9 ?_;refine tk 10 ?_;refine tk 11 ?_;refine TK (rs:=[7,13]) k8 j9 ?_;refine To (λK hK=>?_) ?_
       ·
        go_simp
        (go_at_call 126;refine i6 (fc vx vy _ acK acJ) λw9 Sr=>?_;have r7:=r7.trans Sr)
        go_wp2_with rfl;refine KO (r8 _ r7) λr9=>?_;refine tk 12 ?_;have MV:=MW.new r7;refine rd 13 λK hK=>?_;go_simp;refine KO (r8 _ MV.ext) λr9=>?_;have⟨gz,Rc⟩:=j7 w9.heap.size;rw[<-Rc]at MV;rw[<-Rc];have⟨WZ,hWZ⟩:=j7 (w9.alloc R0);rw[<-hWZ]at MV r9;rw[<-hWZ];clear hWZ Rc;have Ko:=MV.c0;have Kn:=MV.c1;have b2_:=MV.c2;have b3_:=MV.c3;have b4_:=MV.c4;have b5_:=MV.c5;have b6_:=MV.c6;have bf_:=MV.free;refine rd 14 λK hK=>?_;go_simp;refine hK.out _ _ ?_ (λr9=>?_)
        ·exact r8.o _ (MV.put _ _ _ _ _ _ _).ext
        clear hK K
        try simp only[Act.put,sA,sB,sC]
        refine ST k8 ?_ _;go_wp2;go_meet;exact⟨_,rfl,I (MV.put _ _ _ _ _ _ _)⟩
       refine To (λK hK=>?_) R7;have MV:=MW.Fk (D4.refl (w8.alloc R0).drew);go_simp;refine KO (r8 _ MV.ext) λr9=>?_;have⟨gz,Rc⟩:=j7 w8.heap.size;rw[<-Rc]at MV;rw[<-Rc];have⟨WZ,hWZ⟩:=j7 ((w8.alloc R0).drew);rw[<-hWZ]at MV r9;rw[<-hWZ];clear hWZ Rc;refine rd 7 λK hK=>?_;go_simp
       (go_at_call 126;refine i6 (fc vx vy _ acK acJ) λw9 Sr=>?_;have MV:=MV.grow Sr;have r7:=MV.ext)
       go_wp2_with rfl;refine KO (r8 _ r7) λr9=>?_;have Ko:=MV.c0;have Kn:=MV.c1;have b2_:=MV.c2;have b3_:=MV.c3;have b4_:=MV.c4;have b5_:=MV.c5;have b6_:=MV.c6;have bf_:=MV.free;refine tk 12 ?_;refine rd 14 λK hK=>?_;go_simp;refine hK.out _ _ ?_ (λr9=>?_)
       ·exact r8.o _ (MV.put _ _ _ _ _ _ _).ext
       clear hK K
       try simp only[Act.put,sA,sB,sC]
       refine ST k8 ?_ _;go_wp2;go_meet;exact⟨_,rfl,I (MV.put _ _ _ _ _ _ _)⟩
      obtain⟨g,rfl,Hj⟩:=hcut;have Pt:e9 (Wu wc w8 g 1 (FB ax nc cx) d9 (d9) (-vx) vy pv ((List.range 0).map (eP B q2.costs nc))):=I ⟨Hj.box,Hj.hg,og⟩;have Sa:=I Hj.ext;clear Hj c0 c1 c2 c3 c4 cf JB F7 ao;go_wp2
      go_loopg [219] bn (λgk ii wr=>∃(k:Nat) (vY:atY),e9 (gk+k=bn)/\ii=U k/\e9 (Wu wr w8 g 1 (FB ax nc cx) vY d9 (-vx) vy pv ((List.range k).map (eP B q2.costs nc)))/\e9 (D4 w8 wr))
      ·exact⟨0,_,I O,rfl,Pt,Sa⟩
      obtain⟨k,vY,MR,rfl,HL,af⟩:=hrel;have hsr:=af.size;have adJ:=I (X8.trans af);by_cases al:k<bn
      ·have⟨z,hz⟩:=j7 (nc+k);have hzu:z<n10:=by have:=HU.o;have:=HN1.o;omega
       have⟨zb',WI,Z,ey,PE,Wk,GI,LX⟩:=(HC8.ext af).rats.at hzu;obtain⟨rfl,rfl⟩:=er PE;clear PE;have Ha:=VN.2 z (by have:=HU.o;have:=HN1.o;omega);rw[Wk]at Ha;have Ha:=aV Ha;have hex0:-9223372036854775807<=Z:=by have:=Ha.2.2.1;simp only at this;omega
       have hex1:Z<=9223372036854775807:=by have:=Ha.2.2.2;simp only at this;omega
       have hnx0:-9223372036854775807<=-Z:=by have:=Ha.2.2.2;simp only at this;omega
       have hnx1:-Z<=9223372036854775807:=by have:=Ha.2.2.1;simp only at this;omega
       have⟨yB,yoffB,hbaB,I7⟩:=(H.ext adJ).b.at al;subst hbaB;have⟨bi,Jh⟩:=j7 (B[k]?.getD 0);rw[<-Jh]at I7;have V3:=I (show eP B q2.costs nc k=Je bi (-Z,ey)by unfold eP;rw[<-hz,Wk,Jh];rfl);have TO:=qj ((nc:Int)+(k:Int)) (z:Int);have YY:=SW z n10;have YZ:=aE z;have Q6:=I Jh;clear Wk Jh hz Ha I7;go_wp2_with rfl;refine qc (fc Z ey _ hex0 hex1) λw9 hx=>?_;have⟨E2,hE2⟩:=j7 (w9.alloc (SH #[U (-Z),U ey] 80));have FJ:=I (show ai wr E2 w9 (-Z) ey by rw[hE2];exact ai.new hx _ _);have⟨gb,JC⟩:=j7 w9.heap.size;rw[<-JC]at FJ;have U2:=I (adJ.trans FJ.ext);go_upto_region 52 with rfl;rw[<-hE2,<-JC];clear hE2 JC TO YY YZ GI LX;have p1:=aJ (U2.blk HTB);have⟨bb',ald,ZK,I7⟩:=(H.ext U2).b.at al;obtain⟨rfl,rfl⟩:=er ZK;clear ZK;rw[<-Q6.o]at I7;have HL2:=I (HL.ext FJ.ext);have C7:=I (af.trans FJ.ext);obtain⟨e1,LQ⟩:∃e1,Je bi (-Z,ey)=(e1,ey):=by unfold Je D2;split<;>exact⟨_,rfl⟩
       have MY:=I LQ;clear LQ;go_upto_if 234 with rfl
       go_cut [6] (λs6 wx=>s6=ats (some (IM w1 0))/\e9 (ai wr wx gb e1 ey))
       case first =>
        have g0:=FJ.c0;have g1':=FJ.c1;have gf:=FJ.free;by_cases OG:bi<0
        ·have LX:Z=e1:=by have:=MY.o;unfold Je D2 at this;rw[i7 OG]at this;exact(Int.neg_neg Z).symm.trans (IR Prod.fst this)
         subst LX;rw[show decide (bi<0)=true from bl OG];go_wp2_with rfl;refine(fc (-Z) ey _ hnx0 hnx1).mono ?_;exact TN
        have LX:e1=-Z:=by have:=MY.o;unfold Je at this;rw[f8 O]at this;exact(IR Prod.fst this).symm
        subst LX;rw[show decide (bi<0)=false from RK O];go_wp2;go_meet;exact⟨rfl,FJ⟩
       obtain⟨rfl,F1⟩:=hcut;have Nu:=I (HL.ext F1.ext);have Hh:=I (af.trans F1.ext);have g0:=F1.c0;have g1':=F1.c1;have y2:=(FN Nu.box).2.2.1;have LW:=F1.lt;have hlb:=IO Nu.box;have LR:=Hh.size;have OQ:=I (show((List.range k).map (eP B q2.costs nc)).length=k by simp);have H7:=I (show(List.range k).map (eP B q2.costs nc)++[(e1,ey)]=(List.range (k+1)).map (eP B q2.costs nc)by rw[<-MY.o,<-V3.o];exact dq _ _);have hgb2:=Nu.hg;clear p1 I7
       go_wp2_with (first
        | (at_builtin;refine cH rfl _ _ rfl w8 vY _ rfl (Nu.y.ext ZL) _ 1 _ [(e1,ey)] rfl (z6 j9) Yw t8 ?_;intro v9 w9 ho hg r';obtain⟨a9,n9,q9,rfl,Qe⟩:=ho.var;have Il:=I ho;have Tv:=I hg;have Gu:=Nu.agP ZL hg;have c09:=(FN Gu).2.2.1;have UY:=(FN Gu).2.2.2.2.2.2.2;have Pj:D4 w8 w9:=aj (D4.trans Hh.o ZL) hg (λj hj=>(Nu.y.lt j hj).1);clear ho hg r' Gu))
       have Mn:=I (Nu.aek ZL Tv.o Il);have C5:=I (Pj.setCell (p:=(IM g 2)) hgb2 (FB a9 n9 q9));refine Oq ?_;exact⟨k+1,_,I (l8 MR.o),by go_num,I (by rw[<-H7.o];exact Mn),C5⟩
      have E':bn=k:=l8 MR.o;subst E';obtain⟨ay,ny,cy,rfl,HNY⟩:=HL.y.var;have⟨m0,m1,m2,m3,m4,m5,m6,mf⟩:=FN HL.box;have⟨l0,l1,l2,l3,l4,l5,l6,lf'⟩:=FN (adJ.blk Gj);have Qr:=IO HL.box;have hsz7:=X7.size;have afV:=X8.size;have hswz:=J'.o;go_wp2;refine GE (v:=.tuple #[JA ⟨1,(H8 q2.t).take nc,(List.range bn).map (eP B q2.costs nc),[],(-vx,vy),pv⟩ ax nc cx ay ny cy none 0 0,ato true]) d' rfl ⟨?_,(B4.trans adJ).Hp (bq _) _ _ _ _ _ _ _⟩;rw[K8.o,Hb.o];refine⟨ax,nc,cx,ay,ny,cy,none,0,0,rfl,?_,?_,?_⟩
      ·exact((HOX.ext af).keep λi hi=>cv _ (l8 ((HOX.lt i hi).1)) _ _ _ _ _ _ _).Rq Vq (by have h1:=HNX.o;rw[Hi.o]at h1;omega)
      ·exact(HL.y.keep λi hi=>cv _ (l8 ((HL.y.lt i hi).1)) _ _ _ _ _ _ _).Ld (by have:=B4.size;have:=X8.size;omega)
      exact λW _=>i8.PC W
     subst hc;have K8:=I (show Ih A B C=some ⟨3,(H8 q2.t).take nc,[],H5 q2.t nc jc bn,(0,0),pv⟩by
      rw[Q0.o,i7 O,adU.o,eI])
     have HRT9:=I (jN OP.ints O);rw[HZR.o]at HRT9;go_wp2_with rfl;refine hF HRT9 λw9 v9 Wh hx=>?_;obtain⟨a9,n9,c9,rfl,Qe⟩:=Wh.var;obtain rfl:nc=n9:=by have h1:=Qe.o;rw[yl]at h1;exact h1
     have⟨G,hG,OH,NO,VH⟩:=Wh.block (k:=jc) hjc;subst hG;have Il:=I Wh;have Kq:=I hx;have hjc2:=SW jc nc;clear Wh;go_wp2_with rfl;refine qc (cW 1 _) λO6 hx=>?_;have Jx:=I (Il.ext hx);have RM:=I (Kq.trans hx);have⟨G',UW,g1v,g2v,JL,KF,Oh,MU⟩:=Jx.rats.at hjc;obtain⟨rfl,rfl⟩:=er JL;clear JL;rw[fs]at Oh MU;have agC:=C' VH hx.size;have agi:∀j,O6.frozen? (IM G j)=false:=λj=>(hx.frozen (p:=(IM G j)) VH).trans (NO j);have FM:=I (show ZM ((O6.setCell (IM G (jc*2)) (U 1)).setCell (IM G (jc*2+1)) (U 1)) w8 (GT G nc c9) (H5 q2.t nc jc 0)by
      rw[Ez];exact Jx.set (k:=jc) t8 1 1)
     have HX:=I ((RM.setCell (p:=(IM G (jc*2))) OH (U 1)).setCell (p:=(IM G (jc*2+1))) OH (U 1));clear KF NO;go_upto_region 40 with rfl;have⟨Q9,TP⟩:=j7 ((O6.setCell (IM G (jc*2)) (U 1)).setCell (IM G (jc*2+1)) (U 1));rw[<-TP]at FM HX;rw[<-TP];clear TP Oh MU agi agC VH;have QZ:=I (Un.ext HX);have⟨c0,c1,c2,c3,c4,cf⟩:=QZ.cells;go_wp2
     go_loopg [174] bn (λgk ii wr=>∃i:Nat,e9 (gk+i=bn)/\ii=U i/\e9 (ZM wr w8 (GT G nc c9) (H5 q2.t nc jc i))/\e9 (D4 w8 wr))
     ·exact bk
     obtain⟨i,HI,rfl,HR,IX⟩:=hrel;clear c0 c1 c2 c3 c4 cf;have IN:=I (Un.ext IX);have⟨c0,c1,c2,c3,c4,cf⟩:=IN.cells;rw[HPVC.o]at c3;have Pa:=IX.size;by_cases hlt:i<bn
     ·have⟨eb,D6,Kl,GI⟩:=IN.tb.Ku.basis.at hlt;subst Kl;have⟨bb,PN⟩:=j7 (q2.t.basis[i]?.getD 0);rw[<-PN]at GI;have Hy:=I PN;have Pg:0<=bb/\bb<nc+bn:=by
       exact VX
      clear PN;by_cases VE:bb<(nc:Int)
      ·obtain⟨bN,hbN⟩:∃n:Nat,bb=n:=⟨bb.toNat,by omega⟩;subst hbN;have SG:bN<nc:=by omega
       have⟨zb1,M5,ya,yn,yc,TJ,Hl,A4⟩:=IN.tb.Ku.rows.at hlt;subst TJ;have Nb:yn=nc+bn+1:=by rw[<-A4.hlen];exact(HT.row i hlt).1
       have⟨F7,Mz⟩:=A4.ath;have⟨yb,F3,p,q,MT,Fw,Sq,Sp⟩:=A4.at (show jc<yn by omega);subst MT;have hjy:=SW jc yn;have Gi:e9 (q2.t.at i jc=(p,q)):=Fw;have NJ:-9223372036854775807<=p:=by have:=(HT.bounds.2 i jc).1;rw[Gi.o]at this;exact this
       have OD:p<=9223372036854775807:=by have:=(HT.bounds.2 i jc).2;rw[Gi.o]at this;exact this
       clear Fw A4 Nb Pg;go_wp2_with rfl;refine qc (fc p q _ NJ OD) λN7 hx=>?_;have RP:=I (HR.ext hx);have adQ:=I (IX.trans hx);have⟨G',UW,g1v,g2v,JL,KF,Oh,MU⟩:=RP.rats.at SG;obtain⟨rfl,rfl⟩:=er JL;clear JL;rw[fs]at Oh MU;have⟨G2,hG2,agu,agi,agC⟩:=RP.block (k:=bN) SG;obtain rfl:=O2 hG2;clear hG2;have NX:=I (show ZM ((N7.setCell (IM G (bN*2)) (U (-p))).setCell (IM G (bN*2+1)) (U q)) w8 (GT G nc c9) (H5 q2.t nc jc (i+1))by
        rw[rE UM,<-Hy.o,eI,Gi.o];exact RP.set (k:=bN) (by rw[lk];exact SG) (-p) q)
       have C5:=I ((adQ.setCell (p:=(IM G (bN*2))) agu (U (-p))).setCell (p:=(IM G (bN*2+1))) agu (U q));clear KF c0 c1 c2 c3 c4 cf;exact QC
      have NX:=I (show ZM wr w8 (GT G nc c9) (H5 q2.t nc jc (i+1))by rw[uB UM];exact HR);clear Pg;go_wp2_with rfl;refine Y6 ?_;exact⟨i+1,I (l8 HI.o),by go_num,NX,IX⟩
     have FA:bn=i:=l8 HI.o;subst FA;have⟨l0,l1,l2,l3,l4,l5,l6,lf'⟩:=FN ((X8.trans IX).blk Gj);have afV:=X8.size;have hswz:=J'.o;go_wp2;refine GE (v:=.tuple #[JA ⟨3,(H8 q2.t).take nc,[],H5 q2.t nc jc bn,(0,0),pv⟩ ax nc cx none 0 0 (some (IM G 0)) nc c9,ato true]) d' rfl ⟨?_,(B4.trans (X8.trans IX)).Hp (bq _) _ _ _ _ _ _ _⟩;rw[K8.o];refine⟨ax,nc,cx,none,0,0,some (IM G 0),nc,c9,rfl,?_,?_,?_⟩
     ·exact((HOX.ext IX).keep λi hi=>cv _ (by have:=(HOX.lt i hi).1;have:=X7.size;omega) _ _ _ _ _ _ _).Rq Vq (by have h1:=HNX.o;rw[Hi.o]at h1;omega)
     ·exact λW _=>i8.PC W
     exact(HR.keep λi hi=>cv _ (l8 ((HR.lt i hi).1)) _ _ _ _ _ _ _).Ld (by have:=B4.size;have:=X8.size;omega)
end
def Sy(w:J)(base:Nat)(e:Ending)(r:I'):Prop:=∃xa xn xc ya yn yc ra rn rc,e=atn (JA r xa xn xc ya yn yc ra rn rc)/\KR w base xa xn xc ya yn yc ra rn rc r
def Sy.zero(w:J)(base:Nat)(s:Int):Sy w base (atn (JA (bh s) none 0 0 none 0 0 none 0 0)) (bh s):=⟨none,0,0,none,0,0,none,0,0,rfl,KR.zero w base s⟩
section
variable{w:J}{a:o6}{na ca:Nat}{b:o6}{nb cb:Nat}{c:o6}{nc cc:Nat}{A:o4}{B:o7}{C:o3}
def Qn(h:σ:=by
 go_in
 go_upto_region 1 with rfl;rw[<-hW];clear hW;have p0:=aw HTB.o;have p1:=aJ HTB.o;have p2:=aK HTB.o;go_wp2_with rfl;refine HV.mono ?_;rintro e w1 ⟨rfl,hx⟩;have X1:=I hx;have⟨l0,l1,l2,l3,l4,l5,l6,lf⟩:=FN (X1.blk Gj);clear hx p0 p1 p2;go_wp2;refine GE (v:=JA (bh 0) none 0 0 none 0 0 none 0 0) (by simp[results,qq0,go_sem,l0,l1,l2,l3,l4,l5,l6,lf,bh]) rfl ⟨?_,(B4.trans X1).Hp (bq _) _ _ _ _ _ _ _⟩;rw[HR.o];exact Sy.zero _ _ _
 ):σ:=h
theorem lQ(h:L6 w a na ca b nb cb c nc cc A B C):
 Calls prog 125 #[JI a na ca b nb cb c nc cc] w λe w'=>Sy w' w e (bH az A B C)/\D4 w w':=by
 have B9:=(D4.alloc w (bT a na ca b nb cb c nc cc)).trans (D4.alloc _ R0);have⟨W,hW⟩:=j7 ((w.alloc (bT a na ca b nb cb c nc cc)).alloc R0);rw[<-hW]at B9;refine kv B9 (h.ext B9) (show W.heap[w.heap.size+1]?=some (SH #[U 0,d9,d9,d9,U 0,U 0,U 0] 128 (0,0))by rw[hW];exact LE j9) (show W.heap[w.heap.size]?=some (SH #[FB a na ca,FB b nb cb,FB c nc cc] 124 (0,0))by rw[hW,wZ j9];exact LE rfl) (show W.heap.size=w.heap.size+1+1 by rw[hW];simp) λB4 H Gj HTB J'=>?_;have HV:=I (fH H);cases D9:FT A B C
 ·rw[D9]at HV;have HR:=I (show bH az A B C=bh 0 by unfold bH;rw[D9];rfl);have qq0:=@KY;exact Qn
 rw[D9]at HV;have Ho:=I D9;have IE:=I (show bH az A B C=match Ih A B C with|none=>bh 4|some r=>if aQ az A B C r=true then r else bh 4 by unfold bH;rw[i7 D9];cases Ih A B C<;>rfl);have GG:=I (λ(W':J) (hx:D4 W W')=>O9 (H.ext hx) Ho);have⟨o,ho⟩:=j7 (Ih A B C);rw[<-ho]at IE;simp only[<-ho]at GG;clear ho;go_in
 go_upto_region 1 with rfl;rw[<-hW];clear hW;have⟨p0,p1,p2⟩:=mc HTB.o;go_wp2_with rfl;refine i6 HV λw1 hx=>?_;have X1:=I hx;have⟨p0,p1,p2⟩:=mc (X1.blk HTB);go_wp2_with rfl;refine(GG _ X1).mono ?_;rintro e w2 ⟨hs,hx⟩;have X2:=I (X1.trans hx);cases o with
 | none =>
   obtain⟨r,xa,Z,xc,Q,G,K,ra,rn,rc,rfl⟩:=hs;have X3:=I (X2.trans (D4.alloc w2 (de r xa Z xc Q G K ra rn rc)));obtain⟨rs,rX,rY,rr,⟨FR,Fz⟩,rp⟩:=r;have⟨l0,l1,l2,l3,l4,l5,l6,lf⟩:=FN (X3.blk Gj);go_wp2;refine GE (v:=JA (bh 4) none 0 0 none 0 0 none 0 0) TM rfl ⟨?_,(B4.trans X3).Hp (bq _) _ _ _ _ _ _ _⟩;rw[IE.o];exact Sy.zero _ _ _
 | some r =>
   obtain⟨xa,Z,xc,Q,G,K,ra,rn,rc,rfl,LV⟩:=hs;refine Fn (X2.trans (D4.alloc w2 (de r xa Z xc Q G K ra rn rc))) (LV.ext (D4.alloc w2 (de r xa Z xc Q G K ra rn rc))) (LV.here.ext (D4.alloc w2 (de r xa Z xc Q G K ra rn rc))) λX3 VX GS=>?_;have HCK:=I (λ(W':J) (hx:D4 (w2.alloc (de r xa Z xc Q G K ra rn rc)) W')=>Dy (H.ext (X3.trans hx)) (GS.ext hx) Ho);have⟨ck,Wl⟩:=j7 (aQ az A B C r);have aaE:=I (show bH az A B C=if ck=true then r else bh 4 by rw[IE.o,Wl]);simp only[<-Wl]at HCK;have Lc:e9 ((w2.alloc (de r xa Z xc Q G K ra rn rc)).heap[w2.heap.size]?=some (de r xa Z xc Q G K ra rn rc)):=LE rfl;have⟨WR,hWR⟩:=j7 (w2.alloc (de r xa Z xc Q G K ra rn rc));have⟨gr,GQ⟩:=j7 w2.heap.size;rw[<-hWR,<-GQ]at Lc;rw[<-hWR]at X3 GS VX;simp only[<-hWR]at HCK;obtain⟨rs,rX,rY,rr,⟨FR,Fz⟩,rp⟩:=r;clear Wl;go_upto_region 4 with rfl;rw[<-hWR,<-GQ];clear hWR GQ;have⟨p0,p1,p2⟩:=mc (X3.blk HTB);have⟨q0,q1,q2,q3,q4,q5,q6,qf⟩:=FN Lc.o;go_wp2_with rfl;refine i6 (HCK _ So) λw4 hx=>?_;have X4:=I (X3.trans hx);have HLW4:=I (VX.ext hx);have⟨l0,l1,l2,l3,l4,l5,l6,lf⟩:=FN (X4.blk Gj)
   have HBR4:=I (hx.blk Lc);cases ck
   ·go_wp2;refine GE (v:=JA (bh 4) none 0 0 none 0 0 none 0 0) TM rfl ⟨?_,(B4.trans X4).Hp (bq _) _ _ _ _ _ _ _⟩;rw[aaE.o];exact Sy.zero _ _ _
   have⟨q0,q1,q2,q3,q4,q5,q6,qf⟩:=FN HBR4.o;have J2:=X1.size;have Oc:=J'.o;go_wp2;refine GE (v:=JA ⟨rs,rX,rY,rr,(FR,Fz),rp⟩ xa Z xc Q G K ra rn rc) (by simp[results,KY,go_sem,l0,l1,l2,l3,l4,l5,l6,lf]) rfl ⟨?_,(B4.trans X4).Hp (bq _) _ _ _ _ _ _ _⟩;rw[aaE.o];exact⟨xa,Z,xc,Q,G,K,ra,rn,rc,rfl,(HLW4.keep j9 λk hk _=>cv _ O _ _ _ _ _ _ _).mono O⟩
end
end
section
variable{tt:Tb}
theorem Yj{p q:Int}(h:A5 (p,q)=true):Kj (p,q)=decide (p≠0):=by
 have hb:=aV h;unfold Kj;by_cases G:p=0
 ·subst G;have hg:gI 0 q=1:=by
   simp only[A5,cM,cq]at h;exact h.2.2
  have H:q=1:=by
   unfold gI at hg;have:Int.gcd 0 q=q.natAbs:=by simp[Int.gcd]
   rw[this]at hg;simp only at hb;omega
  subst H;simp
 rw[bl G,bl];intro e;exact G (IR Prod.fst e)
theorem ir.more{S:Nat}{a:o6}{na ca:Nat}{b:o6}{nb cb:Nat}{c:o6}{nc cc:Nat}{u v w:J}{o:Option (Tb×Nat)}(hx:D4 u v)(h:ir S a na ca b nb cb c nc cc v w o):ir S a na ca b nb cb c nc cc u w o:=⟨(aR.of hx).trans h.1,h.2⟩
theorem Bs{N:Nat}{H:Tb×Nat}{k:Nat}{t':Tb}{K f':Nat}(G:bP N H (k+1)=some (t',f'))(h:bP N H k=some (tt,K))(Z:K<=1000):f'<=1000:=by
 rw[gw,h,kx]at G;unfold jM at G;split at G
 ·cases G;exact Z
 split at G
 ·cases G;exact Z
 split at G
 ·cases G
 next f e =>
 rw[O0]at G;obtain⟨x,_,hx⟩:=G;simp only[sj]at hx;simp only at e;omega
theorem Bt{n m:Nat}{T0:Nat->Nat->Rat}{N:Nat}{K:Tb×Nat}{k:Nat}{t':Tb}{lf f':Nat}(H:Gy n m T0 tt)(h:bP N K k=some (tt,lf))(G:bP N K (k+1)=some (t',f')):Gy n m T0 t':=by
 rw[gw,h,kx]at G;unfold jM at G;split at G
 ·cases G;exact H
 split at G
 ·cases G;exact H
 split at G
 ·cases G
 rw[O0]at G;obtain⟨x,hx,Z⟩:=G;simp only[sj]at Z;obtain⟨rfl,_⟩:=Z;exact ia H hx
section
variable{w:J}{S:Nat}{a:o6}{na ca:Nat}{b:o6}{nb cb:Nat}{c:o6}{nc cc:Nat}{ra:o6}{rc:Nat}{ba:o6}{bc:Nat}{vs:List atY}{t:Tb}{n:Nat}{N m:Nat}{T0:Nat->Nat->Rat}
theorem ir.some{w w':J}{rn bn:Nat}{tt:Tb}{G:Nat}(hm:aR S w w')(h:ch w' S a na ca b nb cb c nc cc ra rn rc ba bn bc vs tt G false)(hn:G<=1000):ir S a na ca b nb cb c nc cc w w' ((some (tt,1000-G)).map λx=>(x.1,1000-x.2)) :=
 ⟨hm,ra,rn,rc,ba,bn,bc,vs,by show ch _ _ _ _ _ _ _ _ _ _ _ _ _ _ _ _ _ _ _ (1000-(1000-G)) _;rw[show 1000-(1000-G)=G by omega];exact h⟩
structure U4(w wr:J)(S:Nat)(a:o6)(na ca:Nat)(b:o6)(nb cb:Nat)(c:o6)(nc cc:Nat)(N m:Nat)(T0:Nat->Nat->Rat)(s0:Tb×Nat)(k:Nat)(nn:Nat)(f:Bool)(tt:Tb)(ra:o6)(rn rc:Nat)(ba:o6)(bn bc:Nat)(vs:List atY):Prop where
 mod:aR S w wr
 st:ch wr S a na ca b nb cb c nc cc ra rn rc ba bn bc vs tt nn f
 go:f=false->bP N s0 k=some (tt,1000-nn)/\nn<=1000/\Gy N m T0 tt/\rn=m/\bn=m
 no:f=true->bP N s0 k=none
def RN(h:σ:=by
 go_wp2_with rfl;refine al (Q8 rfl _ _ _) rfl ⟨rfl,?_⟩;rw[HDE.o];exact⟨HH.mod,_,_,_,_,_,_,_,_,_,HH.st⟩
 ):σ:=h
theorem EX(h:ch w S a na ca b nb cb c nc cc ra m rc ba m bc vs t n false)(hT:Gy N m T0 t)(hN:N<=1000)(hm:m<=1000)(hn:n<=1000):
 Calls Tryz.prog 310 #[ats (some (IM S 0))] w λe w'=>e=atn (.tuple #[])/\ir S a na ca b nb cb c nc cc w w' ((bP N (t,1000-n) m).map λx=>(x.1,1000-x.2)):=by
 have H0:e9 (U4 w w S a na ca b nb cb c nc cc N m T0 (t,1000-n) 0 n false t ra m rc ba m bc vs):=I ⟨aR.refl _ _,h,λ_=>⟨rfl,hn,hT,rfl,rfl⟩,λe=>by cases e⟩;have hlt:=IO h.box;go_in
 go_wp2
 go_loopg [2] m (λgk ii wr=>∃(k nn:Nat) (f:Bool) (tt:Tb) (ra:o6) (rn rc:Nat) (ba:o6) (bn bc:Nat) (vs:List atY),e9 (gk+k=m)/\ii=U k/\e9 (U4 w wr S a na ca b nb cb c nc cc N m T0 (t,1000-n) k nn f tt ra rn rc ba bn bc vs))
 ·exact⟨0,n,false,t,_,_,_,_,_,_,_,I O,rfl,H0⟩
 rename Nat=>g1;rename J=>A1;obtain⟨k,nn,f,tt,ra,rn,rc,ba,bn,bc,vs,HK,rfl,HH⟩:=hrel;have⟨l0,l1,l2,c0,c1,c2,c3,c4,cf⟩:=HH.st.cells;have hl1:=IO HH.st.box;have J2:=HH.mod.size;have JS:=HK.o;cases f
 ·have⟨G,Ht,hTT,Kk,OG⟩:=HH.go rfl;subst Kk;subst OG;refine Fn G hTT hTT.A' λHD HT MS=>?_;rw[MS.o]at c2;have⟨FL,Hs⟩:=HH.st.tb.Ku.rows.ath;have⟨Gm,F0⟩:=HH.st.tb.Ku.basis.ath;by_cases F4:k<bn
  ·have⟨eb,D6,Kl,GI⟩:=HH.st.tb.Ku.basis.at F4;subst Kl;have⟨bb,Hy⟩:=Ok (tt.basis[k]?.getD 0);rw[<-Hy.o]at GI;have MI:=aE k;have Ij:=SW k bn
   go_upto_block 1 with rfl
   go_cut [2] (λs2 wx=>s2=U k/\ir S a na ca b nb cb c nc cc A1 wx ((bP N (t,1000-n) (k+1)).map λx=>(x.1,1000-x.2)))
   case first =>
    go_upto_region 3 with rfl;have r7:=D4.drew A1;have r8:=I λw' (h:D4 A1 w')=>TX (h.o9 c1) (TX (h.o9 c2) (TX (h.o9 GI) h));refine kp r8 r7 λr9=>?_
    refine ta ⟨?_⟩;refine ST k8 ?_ _;have⟨w3,Gn⟩:=j7 A1.drew;have X3:=I (show D4 A1 w3 by rw[Gn];exact r7);rw[<-Gn];have MZ:=I (HH.st.ext X3);clear Gn;have⟨l0,l1,l2,c0,c1,c2,c3,c4,cf⟩:=MZ.cells;rw[MS.o]at c2;by_cases VE:bb<(N:Int)
    ·have HD1:=I (sz HD.o (by rw[<-Hy.o];exact VE));go_wp2;go_meet;refine⟨rfl,?_⟩;rw[HD1.o];exact ir.some (aR.of X3) MZ.o Ht
    have VT:=I (show(N:Int)<=tt.basis[k]?.getD 0 by rw[<-Hy.o];omega);have hqj:=HT.row k F4;have GN:=I hqj.1;have HRV:=I hqj.2;go_wp2
    go_loopg [3] N (λgk jj wr=>∃j:Nat,e9 (gk+j=N)/\jj=U j/\e9 (((tt.row k).take j).all (λc=>!Kj c)=true)/\w3=wr)
    ·exact sd
    obtain⟨j,HJ,rfl,HA,rfl⟩:=hrel;by_cases Hn:j<N
    ·have⟨zb1,M5,ya,yn,yc,TJ,Hl,A4⟩:=MZ.tb.Ku.rows.at F4;subst TJ;have Nb:yn=N+bn+1:=by rw[<-A4.hlen];exact GN
     have⟨F7,Mz⟩:=A4.ath;have⟨yb,F3,p,q,MT,Fw,Sq,Sp⟩:=A4.at (show j<yn by omega);subst MT;have hjy:=SW j yn;have NF:=HRV.o j O;rw[show(tt.row k)[j]?.getD (0,0)=(p,q)from Fw]at NF;have Gi:e9 ((tt.row k)[j]?.getD (0,0)=(p,q)):=Fw;have VQ:=I (Yj NF);by_cases NJ:p=0
     ·have HA2:=I (vG VM Gi.o HA.o (by rw[VQ.o];simp[NJ]));subst NJ;go_wp2_with rfl;refine sq ?_;exact⟨j+1,I (l8 HJ.o),by go_num,HA2,rfl⟩
     have Pb:(p != 0)=true:=by simpa using NJ
     refine Fn (su HD.o (l8 VT.o) Hn VM HA.o (by rw[Gi.o,VQ.o];simpa using NJ) O) (wi MZ.o HT.o hN hm Ht F4 Hn) (show 1000-(1000-nn)=nn by omega) λN4 OS L9=>?_;go_wp2_with rfl;refine i6 OS λw6 hl6=>?_;go_wp2;go_meet;exact⟨rfl,by rw[N4.o,L9.o];exact ir.more X3.o hl6⟩
    have JK:N=j:=l8 HJ.o;have N4:=I (sy HD.o (l8 VT.o) (by rw[JK];exact HA));go_wp2;go_meet;refine⟨rfl,?_⟩;rw[N4.o];exact ir.some (aR.of X3) MZ.o Ht
   obtain⟨rfl,hmc,TB,TA,Z,ba',Ud,bc',H,FU⟩:=hcut;have HMC:=I (HH.mod.trans hmc);cases G:bP N (t,1000-n) (k+1)with
   | none =>
     rw[G]at FU;obtain⟨t',n',hs'⟩:=FU;have HHN:e9 (U4 w wc S a na ca b nb cb c nc cc N bn T0 (t,1000-n) (k+1) n' true t' TB TA Z ba' Ud bc' H):=I ⟨HMC,hs',λe=>(by cases e),λ_=>G⟩;go_wp2
     go_roundg (g1-1)
     case measure=>omega
     exact⟨k+1,n',true,t',_,_,_,_,_,_,_,I O,by go_num,HHN⟩
   | some st =>
     obtain⟨t',f'⟩:=st;rw[G]at FU;have hf':f'<=1000:=by
      have hs:=Bs G HD.o O;exact hs
     have hTi:=Bt HT.o HD.o G;have afT:=ch.same (show ch wc S a na ca b nb cb c nc cc TB TA Z ba' Ud bc' H t' (1000-f') false from FU) hTi;have HHN:e9 (U4 w wc S a na ca b nb cb c nc cc N bn T0 (t,1000-n) (k+1) (1000-f') false t' TB TA Z ba' Ud bc' H):=I ⟨HMC,FU,λ_=>⟨by rw[G];congr 2;omega,by omega,hTi,afT.1,afT.2⟩,λe=>by cases e⟩;go_wp2
     go_roundg (g1-1)
     case measure=>omega
     exact⟨k+1,1000-f',false,t',_,_,_,_,_,_,_,I O,by go_num,HHN⟩
  have E':bn=k:=O;have HDE:=I (show bP N (t,1000-n) bn=some (tt,1000-nn)by rw[E'];exact HD);go_wp2_with rfl;refine al (Q8 rfl _ _ _) rfl ⟨rfl,?_⟩;rw[HDE.o];exact ir.some HH.mod HH.st Ht
 have HDE:e9 (bP N (t,1000-n) m=none):=oM (HH.no rfl) O;by_cases F4:k<rn
 ·exact RN
 exact RN
end
end
section
variable{w:J}{g:Nat}
theorem Dh{v:o8}(G:A5 v=true):D' v (0,1)<0↔v.1<0:=by
 have hb:=aV G;unfold D';rw[i7 (by rw[G];decide)];simp only;constructor
 ·intro h;split at h
  ·next h1=>omega
  split at h
  ·omega
  omega
 intro h;rw[i7 O];omega
theorem zC(n m:Nat):Hf (eT n m)=true:=by
 unfold Hf eT;rw[p7,T7,T7];have H:A5 ((0:Int),(1:Int))=true:=by decide
 have G:A5 ((1:Int),(1:Int))=true:=by decide
 rw[H,G];simp
theorem zD{C:o3}(h:Hf C=true)(m:Nat):Hf (dA C m)=true:=by
 unfold Hf dA at *;rw[p7,h,T7];have G:A5 ((0:Int),(1:Int))=true:=by decide
 rw[G];simp
def p4(w:J)(S:Nat)(a:o6)(na ca:Nat)(b:o6)(nb cb:Nat)(c:o6)(nc cc:Nat)(e:Ending)(w':J)(o:Option I'):Prop :=
 aR S w w'/\match o with
  | some r=>∃xa xn xc ya yn yc za zn zc,e=atn (JA ⟨r.status,r.X,r.Y,r.Kc,r.value,0⟩ xa xn xc ya yn yc za zn zc)/\KR w' w xa xn xc ya yn yc za zn zc r/\∃ra rn rc ba bn bc vs t n,ch w' S a na ca b nb cb c nc cc ra rn rc ba bn bc vs t n false/\(n:Int)=r.TD
  | none=>∃r xa xn xc ya yn yc za zn zc,e=atn (JA r xa xn xc ya yn yc za zn zc)/\∃ra rn rc ba bn bc vs t n,ch w' S a na ca b nb cb c nc cc ra rn rc ba bn bc vs t n true
theorem GR.Hp{base:Nat}{H G:atY}{vs:List atY}{t:Tb}{c:Array atY}{z:Nat×Nat}(h:GR w base H G vs t)(hb:w.heap[g]?=some (SH c 128 z))(x0 x1 x2 x3 Z Q K:atY):
 GR (((((((w.setCell (IM g 0) x0).setCell (IM g 1) x1).setCell (IM g 2) x2).setCell (IM g 3) x3).setCell (IM g 4) Z).setCell (IM g 5) Q).setCell (IM g 6) K) base H G vs t:=by
 refine⟨h.a.keep λk hk=>cv _ ?_ _ _ _ _ _ _ _,h.rows.keep λi k hi hk=>cv _ ?_ _ _ _ _ _ _ _,h.b.keep λk hk=>cv _ ?_ _ _ _ _ _ _ _⟩
 ·exact λe=>(aq h.a hb FS) N3
 ·exact λe=>(aq (h.rows.row i hi) hb FS) N3
 exact λe=>(aq h.b hb FS) N3
section
variable{w:J}{S:Nat}{a:o6}{na ca:Nat}{b:o6}{nb cb:Nat}{c:o6}{nc cc:Nat}{ra:o6}{rn rc:Nat}{ba:o6}{bn bc:Nat}{vs:List atY}{t:Tb}{n:Nat}{f:Bool}
theorem ch.Hp{g:Nat}{cs:Array atY}{z:Nat×Nat}(h:ch w S a na ca b nb cb c nc cc ra rn rc ba bn bc vs t n f)(hb:w.heap[g]?=some (SH cs 128 z))(x0 x1 Z Q K H G:atY):
 ch (((((((w.setCell (IM g 0) x0).setCell (IM g 1) x1).setCell (IM g 2) Z).setCell (IM g 3) Q).setCell (IM g 4) K).setCell (IM g 5) H).setCell (IM g 6) G) S a na ca b nb cb c nc cc ra rn rc ba bn bc vs t n f :=
 ⟨(cv _ (mC h.box hb FS) _ _ _ _ _ _ _).trans h.box,h.tb.Hp hb _ _ _ _ _ _ _⟩
end
theorem aR.Hp{S:Nat}{w0:J}(h:aR S w0 w)(hg:w0.heap.size<=g)(x0 x1 Z Q K H G:atY):
 aR S w0 (((((((w.setCell (IM g 0) x0).setCell (IM g 1) x1).setCell (IM g 2) Z).setCell (IM g 3) Q).setCell (IM g 4) K).setCell (IM g 5) H).setCell (IM g 6) G):=by
 have hx:=D4.Hp (D4.refl w) (b:=w.heap.size) (m9 _) x0 x1 Z Q K H G;refine⟨?_,?_,?_,?_,λk hk hn=>?_⟩
 ·have:=((((((Y' g w).setCell (p:=(IM g 0)) (m9 g) x0).setCell (p:=(IM g 1)) (m9 g) x1).setCell (p:=(IM g 2)) (m9 g) Z).setCell (p:=(IM g 3)) (m9 g) Q).setCell (p:=(IM g 4)) (m9 g) K).setCell (p:=(IM g 5)) (m9 g) H |>.setCell (p:=(IM g 6)) (m9 g) G
  exact this.os.trans h.os
 ·have:=((((((Y' g w).setCell (p:=(IM g 0)) (m9 g) x0).setCell (p:=(IM g 1)) (m9 g) x1).setCell (p:=(IM g 2)) (m9 g) Z).setCell (p:=(IM g 3)) (m9 g) Q).setCell (p:=(IM g 4)) (m9 g) K).setCell (p:=(IM g 5)) (m9 g) H |>.setCell (p:=(IM g 6)) (m9 g) G
  exact this.tape.trans h.tape
 ·have:=((((((Y' g w).setCell (p:=(IM g 0)) (m9 g) x0).setCell (p:=(IM g 1)) (m9 g) x1).setCell (p:=(IM g 2)) (m9 g) Z).setCell (p:=(IM g 3)) (m9 g) Q).setCell (p:=(IM g 4)) (m9 g) K).setCell (p:=(IM g 5)) (m9 g) H |>.setCell (p:=(IM g 6)) (m9 g) G
  exact this.output.trans h.output
 ·have:=h.size;simpa using this
 exact(cv _ O _ _ _ _ _ _ _).trans (h.block k hk hn)
theorem ZM.ady{b0:Nat}{yb H n cap u:Nat}{l:o3}{x y:Int}(h:ZM w b0 (FB (some (IM yb H)) n cap) l)(K:u<n)(Q:l[u]?.getD (0,0)=(x,y)):w.cell? (IM yb (H+u*2))=some (U x)/\w.cell? (IM yb (H+u*2+1))=some (U y):=by
 have⟨yb',aiR,x',y',e,G,h0,Z⟩:=h.rats.at K;obtain⟨rfl,rfl⟩:=er e;rw[Q]at G;simp only[sj]at G;obtain⟨rfl,rfl⟩:=G;exact⟨h0,Z⟩
section
variable{w0 w:J}{S:Nat}{a:o6}{na ca:Nat}{b:o6}{cb:Nat}{c:o6}{nc cc:Nat}{A:o4}{B:o7}{C:o3}{ra:o6}{rc:Nat}{ba:o6}{bc:Nat}{vs:List atY}
theorem EY(h0:L6 w0 a na ca b na cb c nc cc A B C)(ok:FT A B C=true)(hx:D4 w0 w)(hS:w0.heap.size<=S)(h:ch w S a na ca b na cb c nc cc ra na rc ba na bc vs (cG A B nc) 0 false):
 Calls Tryz.prog 258 #[ats (some (IM S 0))] w λe w'=>p4 w S a na ca b na cb c nc cc e w' (JW A B C):=by
 refine Fn hx h0 h λB4 H0 Sb=>?_;have hlt:=IO h.box;have⟨r1,r2,r3,r4,r5,r6⟩:=dL h0 ok;refine Fn (show Lp A=na from h0.a.hlen) (show Lp B=na from h0.b.hlen) (show Lp C=nc from h0.c.hlen) λJc Hj Ji=>?_;have TI:=I (show Gy nc na (λk j=>B8 (dH A B k) j) (cG A B nc)by have:=jW ok;rw[Ji.o,Jc.o]at this;exact this)
 have HVC:=I (show Hf C=true by
  rw[mJ]at ok;simp only[cM]at ok;exact ok.2.2.2.1)
 have⟨Wn,QQ⟩:=h0.a.ath;have⟨Gm,F0⟩:=h0.b.ath;have⟨FQ,IH⟩:=h0.c.ath;have⟨W,hW⟩:=j7 (w.alloc R0);have XW:=I (show D4 w W by rw[hW];exact ZL);have Gj:=I (show W.heap[w.heap.size]?=some (SH #[U 0,d9,d9,d9,U 0,U 0,U 0] 128 (0,0))by rw[hW];exact LE rfl);refine Fn (λ(w':J) (hm:aR S W w')=>(hm.block _ (IO Gj) O).trans Gj) (λ(w':J) (hm:aR S W w')=>H0.ext (hm.ext (hx.trans XW) hS)) (Sb.ext XW) λE6 GD J'=>?_;clear h0 hx h r3 r4 r5 r6 ok;go_in
 go_upto_region 1 with rfl;rw[<-hW];clear hW;have⟨l0,l1,l2,c0,c1,c2,c3,c4,cf⟩:=J'.cells;have MS:=I (wg (GD W (aR.refl _ _)) true O O);go_wp2_with rfl;refine hF MS λw4 v4 Jd hx=>?_;obtain⟨a4,n4,c4',rfl,HN4⟩:=Jd.var;have Qy:=I (J'.ext hx);have Qq:n4=nc+na:=by have h1:=HN4.o;simp only[jK,G6,eT,ar,yl]at h1;rw[Ji.o]at h1;omega
 have Qb:=I (wh Qy.o TI.o O O O Jd Qq (zC _ _));have M3:=I (aR.of (S:=S) hx);clear Jd Qq HN4 l0 l1 l2 c0 c1 c2 c3 c4 cf;go_wp2_with rfl;refine Qb.mono ?_;rintro e w5 ⟨Og,ra5,rn5,rc5,ba5,bn5,bc5,vs5,Vv⟩;have KU:=I (M3.trans Og);have⟨o1,HO1⟩:=Ok (bD (eT (Lp C) (Lp B)) 1000 (cG A B (Lp C)));have Zo:bD (jK true C na) (1000-0) (cG A B nc)=o1:=by rw[HO1.o,Ji.o,Hj.o];simp only[jK,G6];rw[Ji.o]
 rw[Zo]at Vv;clear Zo Og;have⟨q0,q1,q2,q3,q4,q5,q6,qf⟩:=FN (E6 _ KU);have HMW:=I ((aR.of (S:=S) XW).trans KU);cases o1 with
 | none =>
   obtain⟨v5,col5,t5,n5,rfl,MD⟩:=Vv;have Lt:=I MD;have Jn:=I (show JW A B C=none by unfold JW;rw[<-HO1.o];rfl);clear MD;have⟨l0,l1,l2,c0,c1,c2,c3,c4,cf⟩:=Lt.cells;go_wp2;refine GE (v:=JA (bh 0) none 0 0 none 0 0 none 0 0) UC rfl ⟨HMW.Hp (m9 _) _ _ _ _ _ _ _,?_⟩;rw[Jn.o];exact⟨bh 0,none,0,0,none,0,0,none,0,0,rfl,_,_,_,_,_,_,_,_,_,Lt.Hp (E6 _ KU) _ _ _ _ _ _ _⟩
 | some p1 =>
   obtain⟨v5,rfl,Of,MD⟩:=Vv;obtain⟨a5,n5,c5,rfl,JU⟩:=Of.var;have hinv:=eG (t:=cG A B nc) TI.o (show bD (eT (Lp C) (Lp B)) 1000 (cG A B nc)=some p1 by rw[<-Ji.o];exact HO1.symm);have HQT:=I hinv.1;have HQC:=I (fq HQT.o hinv.2.1).1;have HQL:=I hinv.2.2;have⟨e1,e2⟩:=ch.same MD HQT.o;have Wo:=e1.symm;have e2':=e2.symm;clear e1 e2;subst Wo;subst e2';have Lt:=I MD;have Fj:=I Of;clear MD Of hinv;have⟨u,hu⟩:=j7 (nc+na);have HU:=I hu;have HN:=I (show n5=u+1 by have h1:=JU.o;rw[HQC.1]at h1;omega);have⟨yb,F3,lx,ly,MT,R1,JB,F7⟩:=Fj.rats.at (show u<n5 by have:=HN.o;omega);subst MT;have NF:=HQC.2 u O;rw[R1]at NF;have⟨hr5a,hr5b⟩:=Fj.rats.ath;have NC:=I (show p1.costs[Lp C+B.length]?.getD (0,0)=(lx,ly)by rw[Ji.o,Hj.o,<-HU.o];exact R1);have hwu:IntKind.i64.wrap ((n5:Int)-1)=(u:Int):=by have:=HN.o;rw[j0];omega
   have LP:(u:Int)<(n5:Int):=l8 HN.o;have Li:=aE u;have H7:=I (rO lx ly w5);have⟨sg,LQ⟩:=j7 (D' (lx,ly) (0,1));have MY:=I (show sg<0↔lx<0 by rw[LQ];exact Dh NF);rw[<-LQ]at H7;have⟨l0,l1,l2,c0,c1,c2,c3,c4,cf⟩:=Lt.cells;clear LQ R1 hu NF;go_wp2_with rfl;refine qc H7 λw6 hx=>?_;refine Fn (Lt.ext hx) (Fj.ext hx) (KU.trans (aR.of hx)) λHS6 Gp Uq=>?_;clear hwu LP Li JB F7 l0 l1 l2 c0 c1 c2 c3 c4 cf q0 q1 q2 q3 q4 q5 q6 qf;have⟨l0,l1,l2,c0,c1,c2,c3,c4,cf⟩:=HS6.cells;have⟨q0,q1,q2,q3,q4,q5,q6,qf⟩:=FN (E6 _ Uq);by_cases Iy:sg<0
   ·have Qc:=I (show JW A B C=some ⟨2,[],(List.range na).map (en B (1,1) p1.costs nc),[],(0,0),1000-p1.left⟩by
     unfold JW;rw[<-HO1.o];simp only[kx];rw[NC.o,i7 (MY.1 Iy),Hj.o,Ji.o])
    have HDU:=I (ze HS6.o HQT.A' (GD _ Uq).b Wn QQ Gp.rats (by have:=HN.o;have:=HU.o;omega) (by have:=HN.o;have:=HU.o;omega) 1);go_wp2_with rfl;refine hF HDU λw7 v7 Sz hx=>?_;obtain⟨a7,n7,c7,rfl,Ma⟩:=Sz.var;refine Fn (HS6.ext hx) (Uq.trans (aR.of hx)) Sz λQx H Kb=>?_;have hs67:=Uq.size;clear Sz l0 l1 l2 c0 c1 c2 c3 c4 cf q0 q1 q2 q3 q4 q5 q6 qf;have⟨q0,q1,q2,q3,q4,q5,q6,qf⟩:=FN (E6 _ H);have aht:=I ((aR.of (S:=S) XW).trans H);have LW:=IO Gj.o;go_wp2;refine GE (v:=JA ⟨2,[],(List.range na).map (en B (1,1) p1.costs nc),[],(0,0),0⟩ none 0 0 a7 n7 c7 none 0 0) V' rfl ⟨aht.Hp (m9 _) _ _ _ _ _ _ _,?_⟩;rw[Qc.o];refine⟨none,0,0,a7,n7,c7,none,0,0,rfl,⟨λW _=>i8.PC W,?_,λW _=>i8.PC W⟩,_,_,_,_,_,_,_,_,_,Qx.Hp (E6 _ H) _ _ _ _ _ _ _,?_⟩
    ·exact(Kb.keep λi hi=>cv _ (l8 ((Kb.lt i hi).1)) _ _ _ _ _ _ _).Ld O
    show((1000-p1.left:Nat):Int)=1000-(p1.left:Int);have:=HQL.o;omega
   have Qc:=I (show JW A B C=(bP nc (p1.t,p1.left) na).bind λs=>(bD (dA C na) s.2 s.1).map λG =>
    if 0<=G.Fm then⟨3,(H8 G.t).take nc,[],H5 G.t nc G.Fm.toNat na,(0,0),1000-G.left⟩
    else⟨1,(H8 G.t).take nc,(List.range na).map (en B (0,1) G.costs nc),[],D2 (G.costs[nc+na]?.getD (0,0)),1000-G.left⟩by
    unfold JW;rw[<-HO1.o];simp only[kx];rw[NC.o,f8 (λh=>Iy (MY.2 h)),Hj.o,Ji.o])
   have HDR:=I (EX HS6.o HQT.o O O O);have HLF:=I (show 1000-(1000-p1.left)=p1.left by have:=HQL.o;omega);rw[HLF.o]at HDR;go_wp2_with rfl;refine HDR.mono ?_;rintro e w7 ⟨rfl,hm7,ra7,rn7,rc7,ba7,bn7,bc7,vs7,hl7⟩;have H:=I (Uq.trans hm7);clear hm7 l0 l1 l2 c0 c1 c2 c3 c4 cf q0 q1 q2 q3 q4 q5 q6 qf;have⟨q0,q1,q2,q3,q4,q5,q6,qf⟩:=FN (E6 _ H);have aht:=I ((aR.of (S:=S) XW).trans H);cases hd:bP nc (p1.t,p1.left) na with
   | none =>
     rw[hd]at hl7;obtain⟨t7,n7,Tg⟩:=hl7;have Qx:=I Tg;have Jn:=I (show JW A B C=none by rw[Qc.o,hd];rfl);clear Tg hd;have⟨l0,l1,l2,c0,c1,c2,c3,c4,cf⟩:=Qx.cells;go_wp2;refine GE (v:=JA (bh 0) none 0 0 none 0 0 none 0 0) UC rfl ⟨aht.Hp (m9 _) _ _ _ _ _ _ _,?_⟩;rw[Jn.o];exact⟨bh 0,none,0,0,none,0,0,none,0,0,rfl,_,_,_,_,_,_,_,_,_,Qx.Hp (E6 _ H) _ _ _ _ _ _ _⟩
   | some st =>
     obtain⟨tt,lf⟩:=st;rw[hd]at hl7;have hdi:=gX (s:=(p1.t,p1.left)) HQT.o hd;have HT:e9 (Gy nc na _ tt):=hdi.1;have hlf:lf<=1000:=by have h1:=hdi.2;have h2:=HQL.o;simp only at h1;omega
     have HD:=I hd;have Tg:ch w7 S a na ca b na cb c nc cc ra7 rn7 rc7 ba7 bn7 bc7 vs7 tt (1000-lf) false:=hl7;have⟨e1,e2⟩:=ch.same Tg HT.o;have Wo:=e1.symm;have e2':=e2.symm;clear e1 e2 hl7;subst Wo;subst e2';have Qx:=I Tg;clear Tg hd hdi;have⟨l0,l1,l2,c0,c1,c2,c3,c4,cf⟩:=Qx.cells;have ahH:=I (wg (GD _ H) false O O);go_wp2_with rfl;refine hF ahH λw8 v8 Kv hx=>?_;obtain⟨a8,n8,c8,rfl,OU⟩:=Kv.var;have Un:=I (Qx.ext hx);have HM8:=I (H.trans (aR.of hx));have hn8:n8=nc+na:=by have h1:=OU.o;simp only[jK,sv,j',dA,ar,yl]at h1;rw[Ji.o]at h1;omega
     have aaF:=I (wh Un.o HT.o O O O Kv hn8 (zD HVC.o _));clear Kv hn8 OU l0 l1 l2 c0 c1 c2 c3 c4 cf q0 q1 q2 q3 q4 q5 q6 qf;go_wp2_with rfl;refine aaF.mono ?_;rintro e w9 ⟨hm9,ra9,rn9,rc9,ba9,bn9,bc9,vs9,hp9⟩;have HM9:=I (HM8.trans hm9);have afV:=HM8.size;have⟨o2,Is⟩:=j7 (bD (dA C na) lf tt);have Zo:bD (jK false C na) (1000-(1000-lf)) tt=o2:=by rw[Is,show 1000-(1000-lf)=lf by omega];rfl
     rw[Zo]at hp9;have FM:=I Is;have Q0:=I (show JW A B C=o2.map λG=>if 0<=G.Fm then⟨3,(H8 G.t).take nc,[],H5 G.t nc G.Fm.toNat na,(0,0),1000-G.left⟩
      else⟨1,(H8 G.t).take nc,(List.range na).map (en B (0,1) G.costs nc),[],D2 (G.costs[nc+na]?.getD (0,0)),1000-G.left⟩by
      rw[Qc.o,HD.o,kx,Is])
     clear Zo Is hm9;have⟨q0,q1,q2,q3,q4,q5,q6,qf⟩:=FN (E6 _ HM9);have HMW9:=I ((aR.of (S:=S) XW).trans HM9);cases o2 with
     | none =>
       obtain⟨v9,col9,t9,n9,rfl,Z⟩:=hp9;have Um:=I Z;clear Z;have⟨l0,l1,l2,c0,c1,c2,c3,c4,cf⟩:=Um.cells;go_wp2;refine GE (v:=JA (bh 0) none 0 0 none 0 0 none 0 0) UC rfl ⟨HMW9.Hp (m9 _) _ _ _ _ _ _ _,?_⟩;rw[Q0.o];exact⟨bh 0,none,0,0,none,0,0,none,0,0,rfl,_,_,_,_,_,_,_,_,_,Um.Hp (E6 _ HM9) _ _ _ _ _ _ _⟩
     | some G =>
       obtain⟨v9,rfl,Wh,Z⟩:=hp9;obtain⟨a9,n9,c9,rfl,Qe⟩:=Wh.var;have hinv:=eG HT.o (show bD (dA C na) lf tt=some G from FM.symm);have Jw:=I hinv.1;have VN:=I (fq Jw.o hinv.2.1).1;have ahh:=I hinv.2.2;have Nj:=vK HT.o (show bD (dA C na) lf tt=some G from FM.symm);have⟨e1,e2⟩:=ch.same Z Jw.o;have Wo:=e1.symm;have e2':=e2.symm;clear e1 e2;subst Wo;subst e2';have Um:=I Z;have Il:=I Wh;clear Z Wh hinv;have aha:=I (λ(w':J) (hx:D4 w9 w')=>yT (Um.ext hx).tb.Ku Jw.o O O);have Hi:=I (show(H8 G.t).length=nc+na by
        unfold H8;rw[i7 (Jw.ok O),ls,Jw.A',Jw.len];simp)
       have⟨qcq,hqc⟩:=j7 G.Fm;rw[tv,<-hqc]at Q0;rw[<-hqc]at Nj⊢;have VU:=I (show n9=u+1 by have h1:=Qe.o;rw[VN.1]at h1;have:=HU.o;omega);have OS:=I (show((1000-G.left:Nat):Int)=1000-(G.left:Int)by have:=ahh.o;omega);have⟨l0,l1,l2,c0,c1,c2,c3,c4,cf⟩:=Um.cells;rw[Jw.A']at c2;have Z:=HM9.size;clear hqc;go_upto_region 12 with rfl;have r7:=D4.drew w9;have r8:=I λw' (h:D4 w9 w')=>TX (h.o9 c0) (TX (h.o9 c1) (TX (h.o9 c2) h));refine kp r8 r7 λr9=>?_
       refine ks ⟨?_⟩;refine tk 3 ?_;refine ZJ ⟨?_⟩;refine rd 4 λK hK=>?_;go_simp
       (go_at_call 311;refine PP (aha _ r7) λO6 v10 Zq MA=>?_;have afW:=r7.size;have r7:=r7.trans MA;obtain⟨ax,nx,cx,rfl,HNX⟩:=Zq.var;have⟨hcx1,hcx2⟩:=Zq.rats.ath;have hcx3:(nc:Int)<=(cx:Int):=(by(have h1:=HNX.o;rw[Hi.o]at h1;omega)))
       go_wp2_with rfl;refine KO (r8 _ r7) λr9=>?_;refine tk 10 ?_;refine tk 11 ?_;refine ST k8 ?_ _;refine kv (Zq.mono afW) (show nc<=nx by have h1:=HNX.o;rw[Hi.o]at h1;omega) (Um.ext r7) (Il.ext r7) (HM9.trans (aR.of r7)) λHOX La SP Jx SV=>?_;have aaP:=I ((aR.of (S:=S) XW).trans SV);clear r7 Zq l0 l1 l2 c0 c1 c2 c3 c4 cf q0 q1 q2 q3 q4 q5 q6 qf hcx1 r9;have LW:=IO Gj.o;rcases Nj with hc|⟨jc,hc,hjc⟩
       ·subst hc;have K8:=I (show JW A B C=some ⟨1,(H8 G.t).take nc,(List.range na).map (en B (0,1) G.costs nc),[],D2 (G.costs[nc+na]?.getD (0,0)),1000-G.left⟩by
         rw[Q0.o,f8 O])
        have HDU:=I (λ(w':J) (hx:D4 O6 w')=>ze (SP.ext hx) Jw.A' (GD _ (SV.trans (aR.of hx))).b Wn QQ (Jx.ext hx).rats (by have:=VU.o;have:=HU.o;omega) (by have:=VU.o;have:=HU.o;omega) 0);have⟨yb2,Q8,vx,vy,MT,R1,JB,F7⟩:=Jx.rats.at (show u<n9 by have:=VU.o;omega);subst MT;have Ha:=VN.2 u (l8 HU.o);rw[R1]at Ha;have Ha:=aV Ha;have acK:-9223372036854775807<=vx:=by have:=Ha.2.2.1;simp only at this;omega
        have acJ:vx<=9223372036854775807:=by have:=Ha.2.2.2;simp only at this;omega
        have HLV2:=I R1;have Hb:=I (show D2 (G.costs[nc+na]?.getD (0,0))=(-vx,vy)by rw[<-HU.o,R1];rfl);have⟨hr9a,hr9b⟩:=Jx.rats.ath;have hwu:IntKind.i64.wrap ((n9:Int)-1)=(u:Int):=by have:=VU.o;rw[j0];omega
        have LP:(u:Int)<(n9:Int):=l8 VU.o;have Li:=aE u;clear R1 Ha;go_upto_region 15 with rfl;have r7:=D4.drew O6;have r8:=I λw' (h:D4 O6 w')=>TX (h.o9 JB) (TX (h.o9 F7) (aaP.trans (aR.of h)));refine kp r8 r7 λr9=>?_
        refine ks ⟨?_⟩;refine tk 4 ?_;refine ZJ ⟨?_⟩;refine rd 3 λK hK=>?_;go_simp
        (go_at_call 309;refine PP (HDU _ r7) λN7 v12 TY Jq=>?_;have Zj:=r7.size;have r7:=r7.trans Jq;obtain⟨a12,n12,c12,rfl,HN12⟩:=TY.var;have Qd:=I (TY.mono Zj);clear TY)
        go_wp2_with rfl;refine KO (r8 _ r7) λr9=>?_;refine rd 10 λK hK=>?_;go_simp
        (go_at_call 180;refine i6 (eZ vx vy _ acK acJ) λS5 Y2=>?_;have r7:=r7.trans Y2;have Ks:=I (Qd.ext Y2);have HM13:=I (SV.trans (aR.of r7));have afb:=I (aaP.trans (aR.of r7));have HC13:=I (Jx.ext r7);have⟨q0,q1,q2,q3,q4,q5,q6,qf⟩:=FN (E6 _ HM13))
        go_wp2_with rfl;refine KO (r8 _ r7) λr9=>?_;refine tk 11 ?_;have ama:=I (λ(x0 x1 x2 x3 x4 x5 x6:atY)=>(show(λw'=>w'.cell? (IM yb2 (Q8+u*2))=some (U vx)/\w'.cell? (IM yb2 (Q8+u*2+1))=some (U vy)/\aR S w w') (((((((S5.setCell (IM w 0) x0).setCell (IM w 1) x1).setCell (IM w 2) x2).setCell (IM w 3) x3).setCell (IM w 4) x4).setCell (IM w 5) x5).setCell (IM w 6) x6)from by
         have hc:=(HC13.keep (w':=(((((((S5.setCell (IM w 0) x0).setCell (IM w 1) x1).setCell (IM w 2) x2).setCell (IM w 3) x3).setCell (IM w 4) x4).setCell (IM w 5) x5).setCell (IM w 6) x6)) λk hk=>cv _ (l8 ((HC13.lt k hk).1)) _ _ _ _ _ _ _).ady (show u<n9 by have:=VU.o;omega) HLV2.o
         exact⟨hc.1,hc.2,afb.Hp (m9 _) _ _ _ _ _ _ _⟩))
        refine rd 12 λK hK=>?_;go_simp;refine hK.out _ _ ?_ (λr9=>?_)
        ·exact ama.o _ _ _ _ _ _ _
        clear hK K
        try simp only[Act.put,sA,sB,sC]
        refine ST k8 ?_ _;go_wp2;refine GE (v:=JA ⟨1,(H8 G.t).take nc,(List.range na).map (en B (0,1) G.costs nc),[],(-vx,vy),0⟩ ax nc cx a12 n12 c12 none 0 0) V' rfl ⟨afb.Hp (m9 _) _ _ _ _ _ _ _,?_⟩;rw[K8.o,Hb.o];refine⟨ax,nc,cx,a12,n12,c12,none,0,0,rfl,⟨?_,?_,λW _=>i8.PC W⟩,_,_,_,_,_,_,_,_,_,(SP.ext r7).Hp (E6 _ HM13) _ _ _ _ _ _ _,OS⟩
        ·exact((HOX.ext r7).keep λi hi=>cv _ (l8 ((HOX.lt i hi).1)) _ _ _ _ _ _ _).Rq O La.o
        exact(Ks.keep λi hi=>cv _ (by have:=(Ks.lt i hi).1;have:=SV.size;omega) _ _ _ _ _ _ _).Ld (l8 SV.size)
       subst hc;have K8:=I (show JW A B C=some ⟨3,(H8 G.t).take nc,[],H5 G.t nc jc na,(0,0),1000-G.left⟩by
        rw[Q0.o,i7 O,eI])
       have HRY:=I (MB SP.o Jw.o O O hjc);go_wp2_with rfl;refine hF HRY λN7 v12 TY adQ=>?_;obtain⟨a12,n12,c12,rfl,HN12⟩:=TY.var;refine Fn TY (SV.trans (aR.of adQ)) (aaP.trans (aR.of adQ)) λQd VW alZ=>?_;clear TY;have⟨q0,q1,q2,q3,q4,q5,q6,qf⟩:=FN (E6 _ VW);go_wp2;refine GE (v:=JA ⟨3,(H8 G.t).take nc,[],H5 G.t nc jc na,(0,0),0⟩ ax nc cx none 0 0 a12 n12 c12) V' rfl ⟨alZ.Hp (m9 _) _ _ _ _ _ _ _,?_⟩;rw[K8.o];refine⟨ax,nc,cx,none,0,0,a12,n12,c12,rfl,⟨?_,λW _=>i8.PC W,?_⟩,_,_,_,_,_,_,_,_,_,(SP.ext adQ).Hp (E6 _ VW) _ _ _ _ _ _ _,OS⟩
       ·exact((HOX.ext adQ).keep λi hi=>cv _ (l8 ((HOX.lt i hi).1)) _ _ _ _ _ _ _).Rq O La.o
       exact(Qd.keep λi hi=>cv _ (by have:=(Qd.lt i hi).1;have:=SV.size;omega) _ _ _ _ _ _ _).Ld (l8 SV.size)
end
end
section
def XO{A:o4}{B:o7}{C:o3}{r:I'}(h:JW A B C=some r):Lp r.X<=Lp C:=by
 unfold JW at h;cases H:bD (eT (Lp C) (Lp B)) 1000 (cG A B (Lp C))with
 | none=>rw[H]at h;cases h
 | some p1 =>
   rw[H]at h;simp only[kx]at h;split at h
   ·cases h;simp
   cases G:bP (Lp C) (p1.t,p1.left) (Lp B) with
   | none=>rw[G]at h;cases h
   | some s =>
     rw[G]at h;simp only[kx]at h;rw[O0]at h;obtain⟨p2,_,h⟩:=h;split at h<;>subst h<;>simp only[jt]<;>omega
section
variable{w:J}{a:o6}{na ca:Nat}{b:o6}{nb cb:Nat}{c:o6}{nc cc:Nat}{A:o4}{B:o7}{C:o3}
def SS(h:σ:=by
 have GY:w7.heap[S]?=E.heap[S]?:=by rw[Ie];exact If _ _ _ _ (λe=>hne e.symm)
 rw[UV w7 S _ _ _ _ (GY.trans HWE.box)];rfl
 ):σ:=h
theorem ma(h:L6 w a na ca b nb cb c nc cc A B C):
 Calls Tryz.prog 179 #[JI a na ca b nb cb c nc cc] w λe w'=>Sy w' w e (fh A B C)/\D4 w w':=by
 have B9:=(D4.alloc w (bT a na ca b nb cb c nc cc)).trans (D4.alloc _ R0);have⟨W,hW⟩:=j7 ((w.alloc (bT a na ca b nb cb c nc cc)).alloc R0);rw[<-hW]at B9;refine kv B9 (h.ext B9) (show W.heap[w.heap.size+1]?=some (SH #[U 0,d9,d9,d9,U 0,U 0,U 0] 128 (0,0))by rw[hW];exact LE j9) (show W.heap[w.heap.size]?=some (SH #[FB a na ca,FB b nb cb,FB c nc cc] 124 (0,0))by rw[hW,wZ j9];exact LE rfl) (show W.heap.size=w.heap.size+1+1 by rw[hW];simp) λB4 H Gj HTB J'=>?_;have HV:=I (eY H);cases D9:FT A B C
 ·rw[D9]at HV;have HR:=I (show fh A B C=bh 0 by unfold fh;rw[D9];rfl);clear h D9 B9;have qq0:=@Gr;exact Qn
 rw[D9]at HV;have⟨r1,r2,r3,r4,r5,r6⟩:=dL h D9;subst r3;have Ho:=I D9;have IE:=I (show fh A B C=match JW A B C with|none=>bh 4|some r=>if aQ bL A B C r=true then r else bh 4 by unfold fh;rw[i7 D9];cases JW A B C<;>rfl);have Hx:=I (λ(w':J) (hx:D4 W w')=>uI (H.ext hx) Ho);have⟨o,ho⟩:=j7 (JW A B C);rw[<-ho]at IE;have HXL:=I (λ(r:I') (e:o=some r)=>show Lp r.X<=nc by have:=XO (ho.symm.trans e);rw[show C.length=nc from h.c.hlen]at this;exact this);have GG:=I (λ(w':J) (S:Nat) (vs:List atY) (ra:o6) (rc:Nat) (ba:o6) (bc:Nat) (hx:D4 W w') (hS:W.heap.size<=S) (hw:ch w' S a nb ca b nb cb c nc cc ra nb rc ba nb bc vs (cG A B nc) 0 false)=>EY H.o Ho.o hx hS hw);simp only[<-ho]at GG;have Qw:=I (show(cG A B nc).rows.length=nb/\(cG A B nc).basis.length=nb by unfold cG;simp[show A.length=nb from h.a.hlen]);clear h D9 ho r4 r5 r6 B9;go_in
 go_upto_region 1 with rfl;rw[<-hW];clear hW;have⟨p0,p1,p2⟩:=mc HTB.o;go_wp2_with rfl;refine qc HV λw1 X1=>?_;clear p0 p1 p2;have⟨p0,p1,p2⟩:=mc (X1.blk HTB);go_upto_region 3 with rfl
 go_cut [3] (λs3 wx=>∃(S:Nat) (vs:List atY) (ra:o6) (rc:Nat) (ba:o6) (bc:Nat),s3=ats (some (IM S 0))/\e9 (D4 W wx)/\e9 (W.heap.size<=S)/\e9 (ch wx S a nb ca b nb cb c nc cc ra nb rc ba nb bc vs (cG A B nc) 0 false))
 case first =>
  have r7:=D4.drew w1;have r8:=I λw' (h:D4 w1 w')=>TX (h.o9 p0) (TX (h.o9 p1) (TX (h.o9 p2) h));refine kp r8 r7 λr9=>?_;refine tk 0 ?_;refine tk 1 ?_;refine rd 2 λK hK=>?_;go_simp
  (go_at_call 257;refine(Hx _ (X1.trans r7)).mono ?_;rintro e w3 ⟨⟨va,vb,vs,rfl,Gw⟩,C0⟩;have r7:=r7.trans C0;obtain⟨a7,n7,c7,rfl,Ma⟩:=Gw.a.var;obtain⟨a8,n8,c8,rfl,OU⟩:=Gw.b.var)
  go_wp2_with rfl;refine KO (r8 _ r7) λr9=>?_;refine tk 3 ?_;have Lm:=r7.trans (D4.alloc w3 (SH #[FB a nb ca,FB b nb cb,FB c nc cc,FB a7 n7 c7,FB a8 n8 c8,U nc,U 0,ato false] 219));refine rd 4 λK hK=>?_;go_simp;refine KO (r8 _ Lm) λr9=>?_;refine tk 5 ?_;refine ST k8 ?_ _;have hn7:nb=n7:=by have h1:=Gw.Ku.rows.hlen;rw[Qw.1]at h1;exact h1
  have hn8:nb=n8:=by have h1:=Gw.Ku.basis.hlen;rw[Qw.2]at h1;exact h1
  subst hn7;subst hn8;go_wp2;go_meet;exact⟨_,vs,a7,c7,a8,c8,rfl,I (X1.trans Lm),I (X1.trans r7).size,I ⟨LE rfl,(Gw.ext ZL).mono (ef _)⟩⟩
 obtain⟨S,vs,ra,rc,ba,bc,rfl,C5,Tr,HW3⟩:=hcut;clear p0 p1 p2;have HSO:=I (GG _ S vs ra rc ba bc C5.o Tr.o HW3);go_wp2_with rfl;refine HSO.mono ?_;rintro e w5 ⟨Og,hs⟩;have X5:e9 (D4 W w5):=Og.ext C5.o Tr;clear Og;cases o with
 | none =>
   obtain⟨r,xa,xn,xc,ya,yn,yc,za,zn,zc,rfl,ra5,rn5,rc5,ba5,bn5,bc5,vs5,t5,n5,Gz⟩:=hs;obtain⟨rs,rX,rY,rr,⟨FR,Z⟩,rp⟩:=r;refine Fn (X5.trans (D4.alloc w5 (de ⟨rs,rX,rY,rr,(FR,Z),rp⟩ xa xn xc ya yn yc za zn zc))) (Gz.ext (D4.alloc w5 (de ⟨rs,rX,rY,rr,(FR,Z),rp⟩ xa xn xc ya yn yc za zn zc))) (show(w5.alloc (de ⟨rs,rX,rY,rr,(FR,Z),rp⟩ xa xn xc ya yn yc za zn zc)).heap[w5.heap.size]?=some (de ⟨rs,rX,rY,rr,(FR,Z),rp⟩ xa xn xc ya yn yc za zn zc)from LE rfl) λXE HWE Ga=>?_;have⟨E,hE⟩:=j7 (w5.alloc (de ⟨rs,rX,rY,rr,(FR,Z),rp⟩ xa xn xc ya yn yc za zn zc));have⟨gB,G⟩:=j7 w5.heap.size;rw[<-hE]at XE HWE;rw[<-hE,<-G]at Ga;have hgW:W.heap.size<=gB:=by rw[G];exact X5.size
   go_upto_region 5 with rfl;rw[<-hE,<-G];clear hE G Gz;have⟨l0,l1,l2,c0,c1,c2,c3,c4,cf⟩:=HWE.cells;have⟨q0,q1,q2,q3,q4,q5,q6,qf⟩:=FN Ga.o;have hne:gB≠S:=λe=>mC Ga.o HWE.box FS e
   have Zv:=IO Ga.o;have F4:=IO HWE.box;go_upto_region 6 with rfl;have⟨w7,Ie⟩:=j7 (E.setCell (IM gB 6) (U n5));have X7:=I (show D4 W w7 by rw[Ie];exact XE.setCell (p:=(IM gB 6)) hgW _);have c7:w7.cell? (IM S 7)=some (ato true):=by
    exact SS
   rw[<-Ie];clear Ie l0 l1 l2 c0 c1 c2 c3 c4 cf q0 q1 q2 q3 q4 q5 q6 qf;have⟨l0,l1,l2,l3,l4,l5,l6,lf⟩:=FN (X7.blk Gj);go_wp2;refine GE (v:=JA (bh 4) none 0 0 none 0 0 none 0 0) Q6 rfl ⟨?_,(B4.trans X7).Hp (bq _) _ _ _ _ _ _ _⟩;rw[IE.o];exact Sy.zero _ _ _
 | some r =>
   obtain⟨xa,xn,xc,ya,yn,yc,za,zn,zc,rfl,LV,ra5,rn5,rc5,ba5,bn5,bc5,vs5,t5,n5,Gz,hnp⟩:=hs;obtain⟨rs,rX,rY,rr,⟨FR,Z⟩,rp⟩:=r;simp only at hnp;refine y5 (X5.trans (D4.alloc w5 (de ⟨rs,rX,rY,rr,(FR,Z),0⟩ xa xn xc ya yn yc za zn zc))) (Gz.ext (D4.alloc w5 (de ⟨rs,rX,rY,rr,(FR,Z),0⟩ xa xn xc ya yn yc za zn zc))) (LV.ext (D4.alloc w5 (de ⟨rs,rX,rY,rr,(FR,Z),0⟩ xa xn xc ya yn yc za zn zc))) (show(w5.alloc (de ⟨rs,rX,rY,rr,(FR,Z),0⟩ xa xn xc ya yn yc za zn zc)).heap[w5.heap.size]?=some (de ⟨rs,rX,rY,rr,(FR,Z),0⟩ xa xn xc ya yn yc za zn zc)from LE rfl) (show w5.heap.size<(w5.alloc (de ⟨rs,rX,rY,rr,(FR,Z),0⟩ xa xn xc ya yn yc za zn zc)).heap.size by simp) LV λXE HWE HLE Ga Lt HL5=>?_;have⟨E,hE⟩:=j7 (w5.alloc (de ⟨rs,rX,rY,rr,(FR,Z),0⟩ xa xn xc ya yn yc za zn zc));have⟨gB,G⟩:=j7 w5.heap.size;have Ot:=I (show D4 w5 E by rw[hE];exact ZL);rw[<-hE]at XE HWE HLE Lt;rw[<-hE,<-G]at Ga;have hgW:W.heap.size<=gB:=by rw[G];exact X5.size
   have Oq:=I G;go_upto_region 5 with rfl;rw[<-hE,<-G];clear hE G Gz LV;have⟨l0,l1,l2,c0,c1,c2,c3,c4,cf⟩:=HWE.cells;have⟨q0,q1,q2,q3,q4,q5,q6,qf⟩:=FN Ga.o;have hne:gB≠S:=λe=>mC Ga.o HWE.box FS e
   have Zv:=IO Ga.o;have F4:=IO HWE.box;rw[hnp]at c3;clear hnp;go_upto_region 6 with rfl;have⟨w7,Ie⟩:=j7 (E.setCell (IM gB 6) (U rp));have X7:=I (show D4 W w7 by rw[Ie];exact XE.setCell (p:=(IM gB 6)) hgW _);have c7:w7.cell? (IM S 7)=some (ato false):=by
    exact SS
   have KX:=I (show w7.heap[gB]?=some (SH #[U rs,FB xa xn xc,FB ya yn yc,FB za zn zc,U FR,U Z,U rp] 128 (0,0))by
    rw[Ie,aM E gB 6 _ _ (U rp) Ga.o];rfl)
   have Ut:=I (show∀k,k<w5.heap.size->w7.heap[k]?=w5.heap[k]? from λk hk=>by
    rw[Ie];exact(If _ _ _ _ PC).trans (Ot.block k hk))
   have HL7:=I (show KR w7 W xa xn xc ya yn yc za zn zc ⟨rs,rX,rY,rr,(FR,Z),rp⟩from(by
    have h1:=HL5.keep (w':=w7) (by rw[Ie];have:=Ot.size;simpa using this) (λk hk r7=>by rw[Ie];exact(If _ _ _ _ PC).trans (Ot.block k r7));have h2:=h1.mono (base':=W.heap.size) C5.size;exact⟨h2.x,h2.y,h2.Kc⟩))
   rw[<-Ie];clear Ie l0 l1 l2 c0 c1 c2 c3 c4 cf q0 q1 q2 q3 q4 q5 q6 qf;have⟨p0,p1,p2⟩:=mc (X7.blk HTB);have⟨q0,q1,q2,q3,q4,q5,q6,qf⟩:=FN KX.o;have HCK:=I (EI (H.ext X7) HL7.here Ho);have⟨ck,Wl⟩:=j7 (aQ bL A B C ⟨rs,rX,rY,rr,(FR,Z),rp⟩);have aaE:=I (show fh A B C=if ck=true then⟨rs,rX,rY,rr,(FR,Z),rp⟩ else bh 4 by rw[IE.o,Wl]);rw[<-Wl]at HCK;clear Wl;go_wp2_with rfl;refine qc HCK λw8 hx=>?_;refine Fn (X7.trans hx) (HL7.ext hx) (hx.blk KX) λX8 KV Pw=>?_;have Zi:w5.heap.size<=w7.heap.size:=by have h1:=IO KX.o;have h2:=Oq.o;omega
   have HK8:=I (show∀k,k<w5.heap.size->w8.heap[k]?=w5.heap[k]? from λk hk=>(hx.block k O).trans (Ut k hk));have hs58:w5.heap.size<=w8.heap.size:=l8 hx.size;clear p0 p1 p2 q0 q1 q2 q3 q4 q5 q6 qf c7;cases ck
   ·have⟨l0,l1,l2,l3,l4,l5,l6,lf⟩:=FN (X8.blk Gj);go_wp2;refine GE (v:=JA (bh 4) none 0 0 none 0 0 none 0 0) Q6 rfl ⟨?_,(B4.trans X8).Hp (bq _) _ _ _ _ _ _ _⟩;rw[aaE.o];exact Sy.zero _ _ _
   have⟨q0,q1,q2,q3,q4,q5,q6,qf⟩:=FN Pw.o;have hxn:xn<=1099511627776:=by
    have h1:=KV.here.x.hlen;have h2:=HXL.o _ rfl;simp only at h1 h2;omega
   have Q4:=I (js KV.here.x hxn);go_wp2_with rfl;refine hF Q4 λw9 v9 Wh hx=>?_;obtain⟨a9,n9,c9,rfl,Qe⟩:=Wh.var;refine Op (X8.trans hx) (KV.ext hx) (hx.blk Pw) (show∀k,k<w5.heap.size->w9.heap[k]?=w5.heap[k]? from λk hk=>(hx.block k O).trans (HK8 k hk)) λX9 Mn N6 HK9=>?_;have hs59:w5.heap.size<=w9.heap.size:=l8 hx.size;have Il:=I Wh;have hlt9:=IO N6.o;have afV:=X8.size;clear Wh q0 q1 q2 q3 q4 q5 q6 qf;have⟨q0,q1,q2,q3,q4,q5,q6,qf⟩:=FN N6.o;have hg8:=IO Pw.o;go_upto_region 9 with rfl;have⟨wA,hwA⟩:=j7 (w9.setCell (IM gB 1) (FB a9 n9 c9));have XA:=I (show D4 W wA by rw[hwA];exact X9.setCell (p:=(IM gB 1)) hgW _)
   have HBA:=I (show wA.heap[gB]?=some (SH #[U rs,FB a9 n9 c9,FB ya yn yc,FB za zn zc,U FR,U Z,U rp] 128 (0,0))by
    rw[hwA,aM w9 gB 1 _ _ (FB a9 n9 c9) N6.o];rfl)
   have HOA:=I (show ZM wA w8 (FB a9 n9 c9) rX by
    rw[hwA];exact Il.keep λk hk=>If _ _ _ _ (by have:=(Il.lt k hk).1;show k≠gB;omega))
   have HKA:=I (show∀k,k<w5.heap.size->wA.heap[k]?=w5.heap[k]? from λk hk=>by
    rw[hwA];exact(If _ _ _ _ PC).trans (HK9 k hk))
   have hs5A:w5.heap.size<=wA.heap.size:=by rw[hwA];simpa using hs59
   rw[<-hwA];clear hwA q0 q1 q2 q3 q4 q5 q6 qf;have⟨q0,q1,q2,q3,q4,q5,q6,qf⟩:=FN HBA.o;have⟨l0,l1,l2,l3,l4,l5,l6,lf⟩:=FN (XA.blk Gj);have Oc:=J'.o;have LR:=C5.size;go_wp2;refine GE (v:=JA ⟨rs,rX,rY,rr,(FR,Z),rp⟩ a9 n9 c9 ya yn yc za zn zc) (by simp[results,Gr,go_sem,l0,l1,l2,l3,l4,l5,l6,lf]) rfl ⟨?_,(B4.trans XA).Hp (bq _) _ _ _ _ _ _ _⟩;rw[aaE.o];refine⟨a9,n9,c9,ya,yn,yc,za,zn,zc,rfl,?_,?_,?_⟩
   ·exact(HOA.keep λi hi=>cv _ (l8 ((HOA.lt i hi).1)) _ _ _ _ _ _ _).Ld O
   ·exact(HL5.y.keep (by simpa using hs5A) λk hk r7=>(cv _ O _ _ _ _ _ _ _).trans (HKA k r7)).mono O
   exact(HL5.Kc.keep (by simpa using hs5A) λk hk r7=>(cv _ O _ _ _ _ _ _ _).trans (HKA k r7)).mono O
end
end
section
def gU(x:Int)(l:o7):Bool:=A8 x 1 5&&(decide (Lp l<=40)&&l.all (λs=>A8 s 1 (Gg x-1)))
def VZ(l:o7)(k:Nat):o7:=D8 l k++[-1,1]
def QV(q:Nat)(l:o7):o4:=(List.range q).map (VZ l)
def RJ(l:o7)(k:Nat):Int:=-(D8 l k).sum
def SM(q:Nat)(l:o7):o7:=(List.range q).map (RJ l)
def MM(l:o7):o3:=List.replicate (Lp l+2) (0,1)
def J8(x:Int)(l:o7):Bool:=gU x l&&decide ((fh (QV x.toNat l) (SM x.toNat l) (MM l)).status=1)
def P6(x:Int)(l:o7):Bool:=gU x l&&decide ((bH az (QV x.toNat l) (SM x.toNat l) (MM l)).status=1)
def hZ(x:Int)(l:o7):P6 x l=J8 x l:=by
 unfold P6 J8;rw[kD (λ_ j G=>uf ⟨0,by
  unfold MM at G⊢;rw[yl]at G;rw[I0,i7 G];rfl,by omega,by omega⟩)]
def DY{l:o7}{j k:Nat}{b:Bool}(h:j<Lp l)(hb:Ia (l[j]?.getD 0) (k:Int)=b):(D8 l k).take j++[Fv b]=(D8 l k).take (j+1):=by
 unfold D8;rw[<-yo,<-yo,tn h,rN,z8];rw[In h,NE]at hb;rw[hb]
def mt(l:o7)(k j:Nat):0<=((D8 l k).take j).sum/\((D8 l k).take j).sum<=j:=by
 induction j with
 | zero=>simp
 | succ j ih =>
   by_cases h:j<Lp (D8 l k)
   ·rw[tn h,rb,Wo];have:0<=(D8 l k)[j]/\(D8 l k)[j]<=1:=by
     simp only[D8,gz];cases Ia _ _<;>decide
    omega
   rw[aP O]at ih⊢;omega
section
variable{w:J}{x:Int}{a:o6}{n cap:Nat}{l:o7}
theorem tF(h:d6 w a n cap l)(hl:∀k:Nat,l[k]?.getD 0<=9223372036854775807)(hb:n<=1048576):
 f9 325 #[U x,FB a n cap] w (ato (J8 x l)):=by
 have⟨y7,y8⟩:=h.ath;refine Op h.hlen h hl (bj x 1 5 w) λHL HI HB HW=>?_;cases C9:A8 x 1 5
 ·rw[C9]at HW;have HN:=I (show J8 x l=false by unfold J8 gU;rw[C9];rfl);clear h hl C9;have qq0:=@ag;exact SO
 rw[C9]at HW;obtain⟨q,rfl⟩:∃q:Nat,x=q:=⟨x.toNat,by simp[A8]at C9;omega⟩;have I6:1<=q:=by simp[A8]at C9;omega
 have Lk:q<=5:=by simp[A8]at C9;omega
 have Qv:=I C9;by_cases hn:n<=40
 ·have QN:¬(n:Int) > 40:=by omega
  have hw2:=dc ((n:Int)+2);have HZ:=I (me (w:=w) (n+2) O);rw[show((n+2:Nat):Int)=(n:Int)+2 by omega]at HZ;have Uz:=I (dT q Lk);have Oi:=bp q Lk;have⟨cq,hcq⟩:=j7 (cN q);have HCQ:=I (show Gg (q:Int)=(cq:Int)by rw[Uz.o,hcq]);rw[<-hcq]at Oi;clear h hl C9 hcq;(try unfold f9);go_in
  go_wp2_with rfl;refine HW.mono ?_;rintro e w1 ⟨rfl,rfl⟩;go_wp2_with rfl;refine hF HZ λw1 v1 TZ B0=>?_;obtain⟨a1,n1,c1,rfl,HN1⟩:=TZ.var;have⟨E,hE⟩:=j7 (w1.alloc (SH #[d9,d9,FB a1 n1 c1] 124));have⟨g,hg⟩:=j7 w1.heap.size;have A6:=I (show D4 w E by rw[hE];exact B0.trans ZL)
  have Pt:=I (show D5 E w g d9 (d9) (FB a1 n1 c1) [] ((List.range 0).map (VZ l)) ((List.range 0).map (RJ l)) (MM l)from
   ⟨by rw[hE,hg];exact LE rfl,by rw[hg];exact B0.size,E8.nil _ _,bG.nil _ _,y4,Ju.nil _,by rw[hE];unfold MM;rw[HL.o];exact TZ.ext ZL⟩)
  go_upto_region 4 with rfl;rw[<-hE,<-hg];clear hE hg TZ hw2;go_wp2
  go_loopg [6] q (λgk ii wr=>∃(k:Nat) (va vb:atY) (vs:List atY),e9 (gk+k=q)/\ii=U k/\e9 (0<k->gU (q:Int) l=true)/\e9 (D5 wr w g va vb (FB a1 n1 c1) vs ((List.range k).map (VZ l)) ((List.range k).map (RJ l)) (MM l))/\e9 (D4 w wr))
  ·exact⟨0,_,_,_,I O,rfl,I (λh=>absurd h O),Pt,A6⟩
  rename Nat=>g1;rename J=>A1;obtain⟨k,va,vb,vs,HK,rfl,HV,G,HX⟩:=hrel;have hsz:=HX.size;by_cases hlt:k<q
  ·have SS:=I (y9.Ft A1 A1 _ rfl (m9 _));go_wp2
   go_loopg [7,8,9] n (λgk oo bb ii wr=>∃(j:Nat) (a2:o6) (n2 p2:Nat),e9 (gk+j=n)/\ii=U j/\oo=FB a2 n2 p2/\bb=U (-((D8 l k).take j).sum)/\e9 ((l.take j).all (λs=>A8 s 1 ((cq:Int)-1))=true)/\e9 (y9 wr A1 (FB a2 n2 p2) ((D8 l k).take j))/\e9 (D4 A1 wr))
   ·exact⟨0,_,_,_,I O,rfl,rfl,rfl,I rfl,SS,I ZL⟩
   obtain⟨j,a2,n2,p2,HJ,rfl,rfl,rfl,HA,HO,C7⟩:=hrel;have J0:=C7.size;by_cases Hn:j<n
   ·have⟨eb,D6,Kl,GI⟩:=(HI.ext (HX.trans C7)).at Hn;subst Kl;have⟨s,HS⟩:=Ok (l[j]?.getD 0);have hsm:s<=9223372036854775807:=by rw[HS.o];exact HB.o j
    rw[<-HS.o]at GI;have Qh:=I (λw'=>dp (q:Int) w');rw[HCQ.o]at Qh;have hwc:=dc ((cq:Int)-1);have HII:=I (λw'=>bj s 1 ((cq:Int)-1) w');have⟨iv,Sd⟩:=Ok (A8 s 1 ((cq:Int)-1));simp only[<-Sd.o]at HII;have hj0:=aE j;have hj1:=SW j n;go_upto_region 12 with rfl;have r7:=D4.drew wr;refine k6 (S:=(λw'=>w'.cell? (IM eb (D6+j))=some (U s)/\D4 wr w')) k8 ?_ (λr9=>?_)
    ·exact⟨r7.o9 GI,r7⟩
    refine ks ⟨?_⟩;refine tk 3 ?_;refine tk 4 ?_;refine rd 5 λK hK=>?_;go_simp
    (go_at_call 91;refine(Qh _).mono ?_;rintro e w3 ⟨rfl,rfl⟩)
    go_wp2_with rfl;refine KO (an (r7.o9 GI) r7) λr9=>?_;refine tk 6 ?_;refine rd 7 λK hK=>?_;go_simp
    (go_at_call 90;refine(HII _).mono ?_;rintro e w3 ⟨rfl,rfl⟩)
    go_wp2_with rfl;refine KO (an (r7.o9 GI) r7) λr9=>?_;refine tk 8 ?_;refine ST k8 ?_ _;have⟨w3,Gn⟩:=j7 wr.drew;have C5:=I (show D4 wr w3 by rw[Gn];exact r7);rw[<-Gn];have he3:=C5.o9 GI;clear r7 Gn r9 GI hwc;cases iv
    ·have HN:=I (show J8 (q:Int) l=false by
      unfold J8 gU;rw[iL (d:=0) (show j<l.length by rw[HL.o];exact Hn) (by rw[HCQ.o,<-HS.o];exact Sd.symm)];simp)
     go_wp2;go_ret;exact⟨ag HN.symm,(HX.trans C7).trans C5.o⟩
    have HA2:=I (show(l.take (j+1)).all (λs=>A8 s 1 ((cq:Int)-1))=true by
     rw[lF (d:=0) (show j<l.length by rw[HL.o];exact Hn),HA.o,<-HS.o,<-Sd.o];rfl)
    have⟨hb,Zy⟩:=j7 (Ia s (k:Int));have Uu:=I (λw'=>bE s (k:Int) w' hsm);simp only[<-Zy]at Uu;refine Op (λw'=>fN hb w') (DY (l:=l) (j:=j) (k:=k) (b:=hb) (by rw[HL.o];exact Hn) (by rw[<-HS.o];exact Zy.symm)) (HO.ext C5) (C7.trans C5) λQj H7 C8 X3=>?_;have LR:=X3.size;have GN:=I (show((D8 l k).take j).length=j by rw[jt];simp only[D8,b7];rw[HL.o];omega);have⟨sm,Z⟩:=j7 (((D8 l k).take j).sum);have KD:=mt l k j;rw[<-Z]at KD;have Ts:=I (show((D8 l k).take (j+1)).sum=sm+Fv hb by rw[<-H7.o,rb,Wo,Z]);have GY:0<=Fv hb/\Fv hb<=1:=by cases hb<;>decide
    have⟨bt,Pf⟩:=j7 (Fv hb);rw[<-Pf]at GY Ts H7;simp only[<-Pf]at Qj;rw[<-Z];have⟨ns,hns⟩:=j7 (-sm-bt);have Q':IntKind.i64.wrap (-sm-bt)=ns:=by rw[j0,hns];omega
    have HNS:=I (show ns=-(sm+bt)by omega);clear Zy Z Pf hns
    go_wp2_with (first
     | (go_at_call 173;refine(Uu _).mono ?_;rintro e w4 ⟨rfl,rfl⟩)
     | (go_at_call 249;refine(Qj _).mono ?_;rintro e w4 ⟨rfl,rfl⟩)
     | (at_builtin;refine bK rfl _ _ rfl A1 (FB a2 n2 p2) _ rfl (C8.ext ZL) _ 1 _ [bt] rfl (G3 j9) VM t8 ?_;intro v5 w5 ho hg5 H;have hX5:=aj (X3.trans ZL) hg5 (λi hi=>(C8.lt i hi).1);have X5:=I hX5;obtain⟨a5,n5,c5,rfl,JU⟩:=ho.var;have Fj:=I ho;have⟨eb',Z9,PM,he5⟩:=(HI.ext (HX.trans hX5)).at Hn;obtain⟨rfl,rfl⟩:=er PM;clear PM;rw[<-HS.o]at he5;clear ho hg5 H hX5 he3))
    refine sq ?_;exact⟨j+1,a5,n5,c5,I (l8 HJ.o),by go_num,rfl,by rw[Ts.o,<-HNS.o],HA2,I U5,X5⟩
   have JK:n=j:=l8 HJ.o;have Q6:=I (show gU (q:Int) l=true by
    unfold gU;rw[Qv.o,HL.o,bl hn,HCQ.o];have h1:=HA.o;rw[aP S4]at h1;rw[h1];rfl)
   have HMR:e9 ((D8 l k).take j=D8 l k):=aP (by simp only[D8,b7];rw[HL.o];omega);have HML:=I (show(D8 l k).length=n by simp only[D8,b7];rw[HL.o]);rw[HMR.o]at HO;rw[HMR.o];have⟨bv,hbv⟩:=j7 (-(D8 l k).sum);have WD:=I (show RJ l k=bv by rw[hbv];rfl);rw[<-hbv];have t0:=G.c0;have HVL:=I (show Lp vs=k by rw[G.rows.len];simp);have LW:=G.lt;clear JK hbv;go_upto_region 16 with rfl;have r8:=I λw' (h:D4 A1 w')=>TX (h.o9 t0) (HX.trans h);have C4:D4 A1 wr.drew:=C7.trans (D4.drew wr);refine cj (M:=[8]) (S:=λw'=>w'.cell? (IM g 0)=some va/\D4 w w') k8 ?_;have r9:=r8.o _ C4;have SR:=I (HO.ext (D4.drew wr));have⟨wd,hwd⟩:=j7 wr.drew;rw[<-hwd]at C4 SR r9;rw[<-hwd];clear hwd;have Te:=C4.size;refine lp 0 ?_;refine ll 1 ?_;refine lp 2 ?_;refine Im 3 λK hK=>?_
   go_simp;refine hK.out _ _ (λ_=>r8.o _ (C4.trans ZL)) ?_;clear hK K
   try simp only[Act.put,sA,sB,sC]
   refine Im 4 λK hK=>?_;refine aO _ _ l7 A1 (FB a2 n2 p2) _ l7 (SR.ext ZL) _ 2 _ [-1,1] l7 (d6.afF [-1,1] _ rfl l7 rfl FS) Wk t8 ?_;intro v6 w6 ho K4 H;obtain⟨a6,n6,q6,rfl,Jy⟩:=ho.var;have Gp:=I ho;have LA:D4 A1 w6:=aj (C4.trans ZL) K4 (λj hj=>(HO.lt j hj).1);have hs6:=LA.size;clear ho K4 H;refine KL (r8 _ LA) λr9=>?_;refine Im 5 λK hK=>?_;go_simp;refine hK.out _ _ (λ_=>r8.o _ (LA.trans ZL)) ?_;clear hK K
   try simp only[Act.put,sA,sB,sC]
   refine Im 6 λK hK=>?_;refine dz _ _ l7 w va vs l7 ((G.a.ext LA).ext ZL) _ _ 1 l7 E5 rfl YY t8 ?_;intro v7 w7 ho NM H;obtain⟨a7,n7,q7,rfl,Ma⟩:=ho.var;refine Fn ho NM H λKb Uv HR7=>?_;have Gu:=G.QU (LA.trans ZL) NM;have Tm:=D5.G9 Gu;have cf7:=D5.Hv Gu;have Pk:D4 w w7:=aj ((HX.trans LA).trans ZL) NM (λj hj=>(G.a.lt j hj).1);clear ho NM H Gu;refine KL (eN Tm Pk) λr9=>?_;refine lp 7 ?_;refine Ql 8 ?_;refine cU k8 ?_ _;have KV:=I (G.M8 (LA.trans ZL) (Gp.ext ZL) hsz Uv.o Kb.o HR7);have MX:=I (Pk.setCell (p:=(IM g 0)) G.hg (FB a7 n7 q7));have⟨W8,PT⟩:=j7 (w7.setCell (IM g 0) (FB a7 n7 q7));rw[<-PT]at KV MX;go_upto_region 17 with rfl;rw[<-PT];clear PT Tm cf7 r9 C4 LA;have b1:=KV.c1;have bf:=KV.free;have hl8:=KV.lt;have hs8:w.heap.size<=W8.heap.size:=V2 MX.o;have J9:=I (show((List.range k).map (RJ l)).length=k by simp)
   go_wp2_with (first
    | (at_builtin;refine bK rfl _ _ rfl w vb _ rfl (KV.b.ext ZL) _ 1 _ [bv] rfl (G3 j9) (by rw[J9.o];omega) t8 ?_;intro v9 w9 ho It H;have Mn:=I (KV.pushB ZL It ho H);have Gu:=KV.QT ZL It;have c09:=D5.G8 Gu;have UY:=D5.Hv Gu;have Pj:D4 w w9:=aj (D4.trans MX.o ZL) It (λj hj=>(KV.b.lt j hj).1);obtain⟨a9,n9,q9,rfl,Qe⟩:=ho.var;clear ho It H Gu))
   have Nq:=I (Pj.setCell (p:=(IM g 1)) G.hg (FB a9 n9 q9));refine gy ?_;exact⟨k+1,_,_,_,I (l8 HK.o),by go_num,I (λ_=>Q6.o),I (by
    have h1:=Mn.o;rw[<-WD.o]at h1;rw[<-dq,<-dq];exact h1),Nq⟩
  have Vy:q=k:=l8 HK.o;have Q6:=I (HV O);rw[<-Vy]at G;have FF:e9 (D5 A1 w g va vb (FB a1 n1 c1) vs (QV q l) (SM q l) (MM l)):=G;obtain⟨aA,nA,cA,rfl,U8⟩:=FF.a.var;obtain⟨aB,nB,cB,rfl,VT⟩:=FF.b.var;have Ji:=I (show L6 A1 aA nA cA aB nB cB a1 n1 c1 (QV q l) (SM q l) (MM l)from
   ⟨bZ.Mg ⟨vs,FF.a,FF.rows⟩,FF.b.ints,FF.c.rats⟩)
  have GG:=I (ma Ji);have⟨r,hr⟩:=j7 (fh (QV q l) (SM q l) (MM l));rw[<-hr]at GG;have HF:=I (show J8 (q:Int) l=(r.status == 1)by
   unfold J8;rw[Q6.o,eI,<-hr,wq];rfl)
  have t0:=FF.c0;have t1:=FF.c1;have t2:=FF.c2;clear Vy hr;obtain⟨st,rX,rY,rr,⟨FR,Fz⟩,rp⟩:=r;go_wp2_with rfl;refine GG.mono ?_;rintro e w2 ⟨⟨xa,xn,xc,ya,yn,yc,ra,rn,rc,rfl,_⟩,C9⟩;unfold JA;have hfd:∀w:J,(Instr.field 128 (.agg #[U st,FB xa xn xc,FB ya yn yc,FB ra rn rc,U FR,U Fz,U rp]) 0).run Tryz.prog w=.ok (U st) w:=λ_=>by kernel_rfl
  exact gd
 have QN:(n:Int) > 40:=O;have HN:=I (show J8 (q:Int) l=false by unfold J8 gU;rw[HL.o,RK hn];simp);clear h hl C9;have qq0:=@ag;exact SO
end
