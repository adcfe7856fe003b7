import Derived.Test.YtalmoolkhcgmmaaGreatNqAltG5
import Derived.Test.YtalmoolkhcgmmaaGreatNqAltG3
import Derived.Deep.DeepCutAuto
set_option linter.unusedVariables false
set_option linter.unusedSimpArgs false
namespace Go.Proofs.YtalmoolkhcgmmaaGreat
variable{w:World}{a:j8}{l:j9}
set_option maxHeartbeats 16000000
set_option maxRecDepth 100000
open Go.RowKit
theorem LL{c:Nat}{p r:j9}{j:Nat}(h:j<r.length):(xh c p r).take j++[r[j]?.getD 0*p[c]?.getD 0-r[c]?.getD 0*p[j]?.getD 0]=(xh c p r).take (j+1):=by
 rw[cW (by rw[em];exact h),fO h]
theorem wu{base:Nat}{N cap n:Nat}{vs0:List Value}{M:j7}(h:A4 w base a N cap vs0 M)(hg:Good n 1 M)(h1:1<=n)(h5:n<=5)(hN:N<=1048576)(hb:base<=w.heap.size):
 Calls Tryz.prog 139 #[.slice a N cap,.int .i64 (n:Int)] w fun e w'=>e=.returned (.int .i64 ((runM xh M n).2:Int))/\Below base w w':=by
 have MQ:=h.cap.1;have MR:=h.cap.2;have Kt:=ae h;have HG:=ae hg;have QL:=ae h.len;clear h hg;go_enter Tryz.func139,Tryz.ntmps139
 go_wp2_with fail
 go_loopg [5,6] n (fun gk rk jj wr=>∃(c d:Nat) (vs:List Value) (K:j7),b7 (gk+c=n)/\jj=.int .i64 (c:Int)/\rk=.int .i64 (d:Int)/\b7 (runM xh M c=(K,d))/\b7 (A4 wr base a N cap vs K)/\b7 (Below base w wr))
 case atStart=>exact⟨0,0,vs0,M,ae b9,rfl,rfl,ae rfl,Kt,ae (Below.refl _ _)⟩
 case round =>
  obtain⟨g1,r7⟩:=b8 gk;subst r7;obtain⟨o7,o6⟩:=b8 wr;subst o6;obtain⟨c,d,vs,K,HK,rfl,rfl,HR,HM,HB⟩:=hrel;by_cases hlt:c<n
  ·have xq:=io rH HG.o c b9;rw[HR.o]at xq;obtain⟨GD,TK,Om,GB⟩:=xq;simp only at GD TK Om GB;have OR:=ae GB;have zD:=ae (show K.length=N by rw[TK,QL.o]);rw[QL.o]at Om;obtain⟨P,hP⟩:=b8 (ym K c d);have HP:=ae hP;have Rm:=tm K c (d:=d) (by rw[zD.o];exact Om);rw[<-hP,zD.o]at Rm;obtain⟨hdP,hPN⟩:=Rm;have Wr:=HB.o.size;clear TK GB hP;go_wp2_with fail
   go_loop [7] (fun at7=>∃k:Nat,at7=.int .i64 (k:Int)/\b7 (d<=k)/\b7 (k<=P)) (fun at7=>P-(intOf at7).toNat)
   case atStart=>exact⟨d,rfl,ae (Nat.le_refl _),ae hdP⟩
   case round =>
    obtain⟨k,rfl,HDK,HKP⟩:=hrel;have CM:=HDK.o;have hkp:=HKP.o;by_cases hkP:k<P
    ·have W:k<N:=by omega
     obtain⟨G,rfl,_,_,_⟩:=HM.o.outer b9;obtain⟨g,gc,hvs,hcell,yO,hne,_,_,_,_⟩:=HM.o.row W (OR.o k (by rw[zD.o];exact W)).1 h1;obtain⟨b,off,he,y5⟩:=yO.ints.at hlt;simp only[Option.some.injEq,Addr.mk.injEq,and_true]at he;obtain⟨rfl,rfl⟩:=he;rw[Nat.zero_add,vX (by rw[zD.o];exact Om) CM (by rw[<-HP.o];exact hkP)]at y5;clear hvs yO hne;go_wp2_with fail
     go_round
     case rel=>exact⟨k+1,by go_num,ae b9,ae b9⟩
     case measure=>simp[intOf];omega
    ·have hkP':k=P:=by omega
     subst hkP';by_cases W:k<N
     ·obtain⟨G,rfl,DF,JG,Cw⟩:=HM.o.outer b9;have MM:=Cw k;have ML:=Cw d;clear Cw;have B8:=ed (M:=K) (c:=c) (d:=d) (by rw[<-HP.o,zD.o];exact W);rw[<-HP.o]at B8;obtain⟨gp,cp,U,P9,O,Ro,XN,hgpl,hncp,hcpm⟩:=HM.o.row W (OR.o k (by rw[zD.o];exact W)).1 h1;obtain⟨gd,cd,S0,RB,hod,ZG,CO,hgdl,WW,hcdm⟩:=HM.o.row (show d<N by omega) (OR.o d (by rw[zD.o];omega)).1 h1;obtain⟨b,off,he,y5⟩:=O.ints.at hlt;simp only[Option.some.injEq,Addr.mk.injEq,and_true]at he;obtain⟨rfl,rfl⟩:=he;rw[Nat.zero_add]at y5;obtain⟨R,Hz⟩:=b8 ((K[k]?.getD [])[c]?.getD 0);rw[<-Hz]at y5 B8;have Hy:R≠0:=B8.2.1;have hpcb:(R == 0)=false:=by simpa using Hy
      have DT:=HM.o.swap W (show d<N by omega);rw[U,S0]at DT;obtain⟨M1,Fo⟩:=b8 (swp K k d);obtain⟨vs1,Gs⟩:=b8 (Hl vs k d);have HVP:=ae (show vs1[d]?.getD undef=.slice (some ⟨gp,0,none⟩) n cp by rw[Gs,jv (by rw[HM.o.Aj];exact W) (by rw[HM.o.Aj];omega),if_pos rfl,U]);have Jl:=ae (show Good n (G9 d) M1 by rw[Fo];exact iu OR.o (by rw[zD.o];exact W) (by rw[zD.o];omega));have FU:=ae (show M1.length=N by rw[Fo,cL,zD.o])
      have Er:=ae (show runM xh M (c+1)=(zG xh c M1 d N,d+1)by
       show Ao xh c (runM xh M c)=_;rw[HR.o];unfold Ao;simp only
       rw[<-HP.o,zD.o,if_pos W,Fo,KK K (a:=k) (b:=d) (by rw[zD.o];exact W) (by rw[zD.o];omega)])
      rw[<-Fo,<-Gs]at DT;have Bc:=ae DT;have Av:d<N:=by omega
      have zV:=ae ((HB.o.setCell (p:=⟨G,k,none⟩) DF (.slice (some ⟨gd,0,none⟩) n cd)).setCell (p:=⟨G,d,none⟩) DF (.slice (some ⟨gp,0,none⟩) n cp));clear DT B8 O hod Hz U S0 Fo Gs;by_cases yJ:d=k
      case' pos =>
       subst yJ;have yh:=P9.symm.trans RB;simp only[Option.some.injEq,Value.slice.injEq,Addr.mk.injEq,and_true,true_and]at yh;obtain⟨rfl,rfl⟩:=yh;clear RB
      case' neg=>have hkd':¬k=d:=fun e=>yJ e.symm
      all_goals
       go_wp2_with fail;clear P9
       try clear RB
       have Zk:=ae DF
       go_loopg [9] (N-(d+1)) (fun g3 i I=>∃(t:Nat) (Z:List Value),b7 (g3+t=N)/\i=.int .i64 (t:Int)/\b7 (d<t)/\b7 (A4 I base (some ⟨G,0,none⟩) N cap Z (zG xh c M1 d t))/\b7 (Below base w I)/\b7 (Z[d]?.getD undef=.slice (some ⟨gp,0,none⟩) n cp))
       case atStart=>exact⟨d+1,vs1,ae b9,by go_num,ae b9,ae (by rw[nf];exact Bc.o),zV,HVP⟩
       case round =>
        obtain⟨g3,Dg⟩:=b8 gk;subst Dg;obtain⟨I,A0⟩:=b8 wr;subst A0;obtain⟨t,Z,HT,rfl,QS,Ca,zE,HV3⟩:=hrel;by_cases S3:t<N
        ·have hdt:=QS.o;have Zc:=ae (show Good n (G9 (d+1)) (zG xh c M1 d t)from lJ Jl.o (gh d b9).2.2 (by rw[FU.o];exact Av) fun p r Oe Cg h5 h6=>rH _ n c p r (gh d b9).1 Oe Cg h5 h6);have zT:=ae (show(zG xh c M1 d t).length=N by rw[dz,FU.o]);obtain⟨G',AL,_,hGl3,Cw⟩:=Ca.o.outer b9;simp only[Option.some.injEq,Addr.mk.injEq,and_true]at AL;subst AL;have hft:=Cw t;clear Cw;obtain⟨gt,ct,Gr,ZS,ED,hnt,_,_,hnct,hctm⟩:=Ca.o.row S3 (Zc.o t (by rw[zT.o];exact S3)).1 h1;obtain⟨gp',cp',U,hcp3,O,hnp3,_,_,_,_⟩:=Ca.o.row Av (Zc.o d (by rw[zT.o];exact Av)).1 h1;have yh:=HV3.o.symm.trans U;simp only[Value.slice.injEq,Option.some.injEq,Addr.mk.injEq,and_true,true_and]at yh;obtain⟨rfl,rfl⟩:=yh;rw[gL _ _ _ _ _ _ (by rw[FU.o];exact S3) b9]at ED;rw[gL _ _ _ _ _ _ (by rw[FU.o];exact Av) b9]at O;obtain⟨r,hr⟩:=b8 (M1[t]?.getD []);obtain⟨p,hp⟩:=b8 (M1[d]?.getD []);rw[<-hr]at ED;rw[<-hp]at O;have Cs:=ae (Jl.o t (by rw[FU.o];exact S3));have Hh:=ae (Jl.o d (by rw[FU.o];exact Av));rw[<-hr]at Cs;rw[<-hp]at Hh;have HOT:=ae ED;have NT:=ae O;have Bv:=ae hr;have YI:=ae hp;obtain⟨b,off,he,y5⟩:=ED.ints.at hlt;simp only[Option.some.injEq,Addr.mk.injEq,and_true]at he;obtain⟨rfl,rfl⟩:=he
         rw[Nat.zero_add]at y5;obtain⟨b,off,he,Hy⟩:=O.ints.at hlt;simp only[Option.some.injEq,Addr.mk.injEq,and_true]at he;obtain⟨rfl,rfl⟩:=he;rw[Nat.zero_add]at Hy;obtain⟨rc,Mn⟩:=b8 (r[c]?.getD 0);obtain⟨R,Hz⟩:=b8 (p[c]?.getD 0);rw[<-Mn]at y5;rw[<-Hz]at Hy;have Iz:=ae Mn;have NQ:=ae Hz;have HO:=ae (o8.yG I I.heap.size _ rfl (Nat.le_refl _));clear Gr U ED O hr hp Mn Hz;go_wp2_with fail
         go_loopg [11,12] n (fun g4 nx kk J=>∃(j:Nat) (a1:j8) (n1 p1:Nat),b7 (g4+j=n)/\kk=.int .i64 (j:Int)/\nx=.slice a1 n1 p1/\b7 (o8 J I.heap.size (.slice a1 n1 p1) ((xh c p r).take j))/\b7 (Ext I J))
         case atStart=>exact⟨0,_,_,_,ae b9,rfl,rfl,HO,ae (Ext.alloc _ _)⟩
         case round =>
          obtain⟨g4,MV⟩:=b8 gk;subst MV;obtain⟨J,GI⟩:=b8 wr;subst GI;obtain⟨j,a1,n1,p1,HJ,rfl,rfl,yW,Ai⟩:=hrel;have J4:=Ai.o.size;by_cases Ah:j<n
          ·obtain⟨b,off,he,U4⟩:=HOT.o.ints.at Ah;simp only[Option.some.injEq,Addr.mk.injEq,and_true]at he;obtain⟨rfl,rfl⟩:=he;rw[Nat.zero_add]at U4;obtain⟨b,off,he,U7⟩:=NT.o.ints.at Ah;simp only[Option.some.injEq,Addr.mk.injEq,and_true]at he;obtain⟨rfl,rfl⟩:=he;rw[Nat.zero_add]at U7;obtain⟨rj,Jt⟩:=b8 (r[j]?.getD 0);obtain⟨u,B1⟩:=b8 (p[j]?.getD 0);rw[<-Jt]at U4;rw[<-B1]at U7;have zd:=gh d b9;have zN:=gK (B:=32768) (x:=rj) (y:=R) (j4 (Cs.o.2 j)) (j4 (Cs.o.2 j)) (by have:=Hh.o.2 c;have:=NQ.o;omega) (by have:=Hh.o.2 c;have:=NQ.o;omega);have zx:=gK (B:=32768) (x:=u) (y:=rc) (j4 (Hh.o.2 j)) (j4 (Hh.o.2 j)) (by have:=Cs.o.2 c;have:=Iz.o;omega) (by have:=Cs.o.2 c;have:=Iz.o;omega);have Ce:IntKind.i64.wrap (rj*R)=rj*R:=by rw[IntKind.wrap_i64];omega
           have A7:IntKind.i64.wrap (u*rc)=u*rc:=by rw[IntKind.wrap_i64];omega
           have AK:IntKind.i64.wrap (rj*R-u*rc)=rj*R-u*rc:=by rw[IntKind.wrap_i64];omega
           have HV:=ae (show rj*R-u*rc=r[j]?.getD 0*p[c]?.getD 0-r[c]?.getD 0*p[j]?.getD 0 by rw[<-Jt,<-B1,<-NQ.o,<-Iz.o,Int.mul_comm u rc]);have QM:=ae (show((xh c p r).take j).length=j by rw[List.length_take,em,Cs.o.1];omega);clear Jt B1 zN zx zd;have k7:Ext I J.drew:=Ai.o.trans (Ext.drew J);have PW:Ext I (J.alloc (.cells #[.int .i64 (rj*R-u*rc)] 3)).drew:=(Ai.o.trans (Ext.alloc _ _)).trans (Ext.drew _);have k8:=ae (fun(w':World) (h:Ext I w')=>(⟨h.k6 ZS,h.k6 U4,h.k6 Hy,h.k6 U7,h⟩:w'.cell? ⟨G,t,none⟩=some (.slice (some ⟨gt,0,none⟩) n ct)/\w'.cell? ⟨gt,j,none⟩=some (.int .i64 rj)/\w'.cell? ⟨gp,c,none⟩=some (.int .i64 R)/\w'.cell? ⟨gp,j,none⟩=some (.int .i64 u)/\Ext I w'));go_wp2_with fail
           go_region_held3 (fun w'=>w'.cell? ⟨G,t,none⟩=some (.slice (some ⟨gt,0,none⟩) n ct)/\w'.cell? ⟨gt,j,none⟩=some (.int .i64 rj)/\w'.cell? ⟨gp,c,none⟩=some (.int .i64 R)/\w'.cell? ⟨gp,j,none⟩=some (.int .i64 u)/\Ext I w')
            (first
              | with_reducible exact k8.o _ k7
              | with_reducible exact k8.o _ PW)
            (first
              | (refine ci _ j0 ?_
                 refine co _ _ j0 I.heap.size (.slice a1 n1 p1) _ j0 ((yW.o.ext (Ext.alloc J _)).ext (Ext.drew _)) _ 1 _ [rj*R-u*rc] j0 ((Ints.Ad J _ _ _ rfl).ext (Ext.drew _)) (by rw[QM.o];omega) (by simp;omega) ?_;intro v5 w5 ho hg l7;obtain⟨a5,n5,p5,rfl,A9⟩:=ho.var;have xL:=ae ho;have k7:Ext I w5:=al PW hg (fun j hj=>(yW.o.lt j hj).1)
                 clear ho hg l7)
              | fail)
           have HK5:=ae k7;clear k7 k8;go_wp2_with fail
           go_roundg (g4-1)
           case measure=>have:=HJ.o;omega
           case rel=>exact⟨j+1,a5,n5,p5,ae (j4 HJ.o),by go_num,rfl,ae (by rw[<-LL (by rw[Cs.o.1];exact Ah),<-HV.o];exact xL.o),HK5⟩
          ·have Gz:j=n:=by have:=HJ.o;omega
           subst Gz;have HPUT:=ae (Ca.o.put Ai.o (Nat.le_trans hb zE.o.size) yW.o S3);have Vt:=ae (show(Z.set t (.slice a1 n1 p1))[d]?.getD undef=.slice (some ⟨gp,0,none⟩) j cp by rw[List.getElem?_set_ne b9];exact HV3.o)
           have HMX:=ae (show(zG xh c M1 d t).set t ((xh c p r).take j)=zG xh c M1 d (t+1)by
            rw[List.take_of_length_le (by rw[em,Cs.o.1];exact Nat.le_refl _),Bv.o,YI.o]
            exact ku _ _ _ _ _ hdt (by rw[FU.o];exact S3))
           have VE:=ae ((zE.o.trans (Below.mono Ai.o (Nat.le_trans hb zE.o.size))).setCell (p:=⟨G,t,none⟩) Zk.o (.slice a1 n1 p1));have hct4:=Ai.o.k6 ZS;have hft4:J.frozen? ⟨G,t,none⟩=false:=(Ai.o.Qj _ _ hGl3).trans hft;go_wp2_with fail
           go_roundg (g3-1)
           case measure=>have:=HT.o;omega
           case rel=>exact⟨t+1,_,ae (j4 HT.o),by go_num,ae b9,ae (by rw[<-HMX.o];exact HPUT.o),VE,Vt⟩
        ·have Me:t=N:=by have:=HT.o;omega
         subst Me;go_wp2_with fail
         go_roundg (g1-1)
         case measure=>have:=HK.o;omega
         case rel=>exact⟨c+1,d+1,Z,_,ae (j4 HK.o),by go_num,by go_num,Er,Ca,zE⟩
     ·have Er:=ae (show runM xh M (c+1)=(K,d)by
       show Ao xh c (runM xh M c)=_;rw[HR.o];unfold Ao;simp only
       rw[<-HP.o,zD.o,if_neg W])
      have hkN':k=N:=by omega
      subst hkN';go_wp2_with fail
      go_roundg (g1-1)
      case measure=>have:=HK.o;omega
      case rel=>exact⟨c+1,d,vs,K,ae (j4 HK.o),by go_num,rfl,Er,HM,HB⟩
  ·have EH:c=n:=by have:=HK.o;omega
   subst EH;go_wp2_with fail;go_ret;exact⟨aU (by rw[HR.o]),HB.o⟩
theorem xe.yG(w:World)(base n:Nat)(hn:n=w.heap.size)(hb:base<=w.heap.size):xe (w.alloc (.cells #[] 24)) base (.slice (some ⟨n,0,none⟩) 0 0) []:=by
 subst hn;exact World.ownsRow_lit w #[] 0 hb b9 rfl
theorem La{n:Int}{m cap:Nat}(h:Ints w a m cap l)(hl:∀k:Nat,l[k]?.getD 0<=9223372036854775807)(hm:m<=1048576):
 Calls Tryz.prog 86 #[.int .i64 n,.slice a m cap] w fun e w'=>e=.returned (.int .i64 (gT n l))/\Ext w w':=by
 have MQ:=h.o3;have MR:=h.l9;have HL:=ae h.hlen;have HI:=ae h;have y4:=ae hl;clear h hl;cases xR:wJ n 1 5
 ·have HN:=ae (show gT n l=0 by unfold gT;rw[xR];rfl);have R:=ae (bG n 1 5 w);rw[xR]at R;clear xR;go_enter Tryz.func86,Tryz.ntmps86
  go_wp2_with fail;refine R.o.mono ?_;rintro e w1 ⟨rfl,rfl⟩;go_wp2_with fail;go_ret;exact⟨aU HN.o.symm,Ext.refl _⟩
 ·obtain⟨G,rfl⟩:∃k:Nat,n=k:=⟨n.toNat,by simp only[wJ,Bool.and_eq_true,decide_eq_true_eq]at xR;omega⟩;have W:1<=G/\G<=5:=by simp only[wJ,Bool.and_eq_true,decide_eq_true_eq]at xR;omega
  obtain⟨h1,h5⟩:=W;have HN:=ae (show gT (G:Int) l=((runM xh (l.map (y8 G)) G).2:Int)by unfold gT;rw[if_pos xR];rfl);have R:=ae (bG G 1 5 w);rw[xR]at R;have HO:=ae (xe.yG w w.heap.size _ rfl (Nat.le_refl _));clear xR;go_enter Tryz.func86,Tryz.ntmps86
  go_wp2_with fail;refine R.o.mono ?_;rintro e w1 ⟨rfl,rfl⟩;go_wp2_with fail
  go_loopg [5,6] m (fun gk out i wr=>∃(k:Nat) (a1:j8) (n1 p1:Nat) (J:List Value),b7 (gk+k=m)/\i=.int .i64 (k:Int)/\out=.slice a1 n1 p1/\b7 (xe wr w.heap.size (.slice a1 n1 p1) J)/\b7 (bC wr w.heap.size J ((l.take k).map (y8 G)))/\b7 (Ext w wr))
  case atStart=>exact⟨0,_,_,_,[],ae b9,rfl,rfl,HO,ae (bC.nil _ _),ae (Ext.alloc _ _)⟩
  case round =>
   obtain⟨g1,r7⟩:=b8 gk;subst r7;obtain⟨K,o6⟩:=b8 wr;subst o6;obtain⟨k,a1,n1,p1,J,Z,rfl,rfl,HV,HR,HX⟩:=hrel;have O:=HX.o.size;by_cases hlt:k<m
   ·obtain⟨b,off,ha,B0⟩:=(HI.o.ext HX.o).at hlt;subst ha;obtain⟨s,hs⟩:=b8 (l[k]?.getD 0);rw[<-hs]at B0;have HS:=ae hs;have F3:s<=9223372036854775807:=by rw[hs];exact y4.o k
    have yE:=ae (o8.yG K K.heap.size _ rfl (Nat.le_refl _));have EI:=ae (show J.length=k by rw[HR.o.len,List.length_map,List.length_take];have:=HL.o;omega);clear hs;go_wp2_with fail
    go_loopg [7,8] G (fun gk row i wr=>∃(j:Nat) (a2:j8) (n2 p2:Nat),b7 (gk+j=G)/\i=.int .i64 (j:Int)/\row=.slice a2 n2 p2/\b7 (o8 wr K.heap.size (.slice a2 n2 p2) (y8 j s))/\b7 (Ext K wr))
    case atStart=>exact⟨0,_,_,_,ae b9,rfl,rfl,yE,ae (Ext.alloc _ _)⟩
    case round =>
     obtain⟨g2,xK⟩:=b8 gk;subst xK;obtain⟨wr2,wT⟩:=b8 wr;subst wT;obtain⟨j,a2,n2,p2,u,rfl,rfl,U,I⟩:=hrel;have D3:=I.o.size;by_cases Ah:j<G
     ·have CY:=I.o.k6 B0;have QM:=ae (ir j s)
      go_wp2_with (first
       | (go_at_call 78;refine(ee s (j:Int) _ F3).mono ?_;rintro e w' ⟨rfl,rfl⟩)
       | (go_at_call 79;refine(fR (xt s (j:Int)) _).mono ?_;rintro e w' ⟨rfl,rfl⟩)
       | (at_builtin;refine bm rfl _ _ rfl K.heap.size (.slice a2 n2 p2) _ rfl (U.o.ext (Ext.alloc _ _)) _ 1 _ [wL (xt s (j:Int))] rfl (Ints.Ad _ _ _ _ e7) (by rw[QM.o];omega) (by simp;omega) ?_;intro v5 w5 ho hg l7;obtain⟨a5,n5,p5,rfl,A9⟩:=ho.var;have xL:=ae ho;have X5:=ae (al (I.o.trans (Ext.alloc _ _)) hg (fun j hj=>(U.o.lt j hj).1));clear ho hg l7))
      go_roundg (g2-1)
      case measure=>have:=u.o;omega
      case rel=>exact⟨j+1,a5,n5,p5,ae (j4 u.o),by go_num,rfl,ae (by rw[<-oB];exact xL.o),X5⟩
     ·have Gz:j=G:=by have:=u.o;omega
      subst Gz
      go_wp2_with (first
       | (at_builtin;refine eL rfl _ _ rfl w.heap.size (.slice a1 n1 p1) J rfl ((HV.o.ext I.o).ext (Ext.alloc _ _)) _ _ 1 rfl (by simp;rfl) rfl (j4 EI.o) (by simp;omega) ?_;intro v6 w6 ho hg l7;obtain⟨a6,n6,p6,rfl,Jg⟩:=ho.var;have BU:=ae ho;have Et:=ae (((HR.o.snoc I.o U.o O).ext (Ext.alloc _ _)).AM ((HV.o.ext I.o).ext (Ext.alloc _ _)) hg);have X6:=ae (al ((HX.o.trans I.o).trans (Ext.alloc _ _)) hg (fun j hj=>(HV.o.lt j hj).1));clear ho hg l7))
      go_roundg (g1-1)
      case measure=>have:=Z.o;omega
      case rel=>exact⟨k+1,a6,n6,p6,_,ae (j4 Z.o),by go_num,rfl,BU,ae (by rw[cW (j4 HL.o),List.map_append,<-HS.o];exact Et.o),X6⟩
   ·have Bf:k=m:=by have:=Z.o;omega
    subst Bf;have HT:=ae (show l.take k=l from List.take_of_length_le (by rw[HL.o];exact Nat.le_refl _));have Ex:=ae (show n1=k by rw[<-HV.o.len,HR.o.len,HT.o,List.length_map,HL.o]);have HM:=ae (show A4 K w.heap.size a1 n1 p1 J (l.map (y8 G))from⟨HV.o,by have:=HR.o;rw[HT.o]at this;exact this⟩);have HC:=ae (wu HM.o (jz G l) h1 h5 (by rw[Ex.o];exact hm) O);go_wp2_with fail;refine HC.o.mono ?_;rintro e w2 ⟨rfl,hb⟩;have HB:=ae (HX.o.Gi hb);clear hb;go_wp2_with fail;go_ret;exact⟨aU HN.o.symm,HB.o⟩
theorem wB(k:Int)(m:Nat):yk k m++[k+(m:Int)]=yk k (m+1):=by simp[yk,List.range_succ]
theorem qC(lo hi:Int)(n:Nat)(h0:0<=lo)(h1:lo<=1000)(hn:hi+1-lo=n)(hb:n<=1000):
 Calls Tryz.prog 65 #[.int .i64 lo,.int .i64 hi] w fun e w'=>(∃v,e=.returned v/\o8 w' w.heap.size v (yk lo n))/\Ext w w':=by
 have HN:=ae hn;have G:hi=lo+(n:Int)-1:=by omega
 have Xo:-1<=hi:=by omega
 have Vd:hi<=2000:=by omega
 have HH:=ae G;have HO:=ae (o8.yG w w.heap.size _ rfl (Nat.le_refl _));clear hn G;go_enter Tryz.func65,Tryz.ntmps65
 go_wp2_with fail
 go_loopg [5,6] n (fun gk oo ii wr=>∃(k:Nat) (i:Int) (a1:j8) (n1 p1:Nat),b7 (gk+k=n)/\b7 (i=lo+(k:Int))/\ii=.int .i64 i/\oo=.slice a1 n1 p1/\b7 (o8 wr w.heap.size (.slice a1 n1 p1) (yk lo k))/\b7 (Ext w wr))
 case atStart=>exact⟨0,lo,_,_,_,ae b9,ae b9,rfl,rfl,HO,ae (Ext.alloc _ _)⟩
 case round =>
  obtain⟨g1,K⟩:=b8 gk;subst K;obtain⟨o7,R⟩:=b8 wr;subst R;obtain⟨k,i,a1,n1,p1,I,HI,rfl,rfl,xC,HX⟩:=hrel;have hsz:=HX.o.size;have JD:0<=i:=by have:=HI.o;omega
  have hi1:i<=2001:=by have:=HI.o;have:=I.o;omega
  by_cases hlt:k<n
  ·have hle:i<=hi:=by have:=HI.o;have:=HH.o;omega
   have HL:=ae (rC lo k)
   go_wp2_with (first
    | (at_builtin;refine bm rfl _ _ rfl w.heap.size (.slice a1 n1 p1) _ rfl (xC.o.ext (Ext.alloc _ _)) _ 1 _ [i] rfl (Ints.Ad _ _ _ _ e7) (by rw[HL.o];have:=I.o;omega) (by simp;omega) ?_;intro v5 w5 ho hg l7;obtain⟨a5,U,O,rfl,A9⟩:=ho.var;have xL:=ae ho;have X5:=ae (al (HX.o.trans (Ext.alloc _ _)) hg (fun j hj=>(xC.o.lt j hj).1));clear ho hg l7))
   go_roundg (g1-1)
   case measure=>have:=I.o;omega
   case rel=>exact⟨k+1,i+1,a5,U,O,ae (j4 I.o),ae (j4 HI.o),rfl,rfl,ae (by have:=xL.o;rw[HI.o,wB]at this;exact this),X5⟩
  ·have J:k=n:=by have:=I.o;omega
   have WT:¬i<=hi:=by have:=HI.o;have:=HH.o;omega
   subst J;go_wp2_with fail;go_ret;exact⟨⟨_,rfl,xC.o⟩,HX.o⟩
theorem Lg(n:Nat)(x:Int){k:Nat}(h:k<n):(List.replicate k x++List.replicate (n-k) 0).set k x=List.replicate (k+1) x++List.replicate (n-(k+1)) 0:=by
 rw[List.set_append_right _ _ e7];simp only[List.length_replicate,Nat.sub_self];obtain⟨d,hd⟩:∃d,n-k=d+1:=⟨n-k-1,by omega⟩;rw[hd,List.replicate_succ,List.set_cons_zero,show n-(k+1)=d by omega,List.replicate_succ',List.append_assoc]
 rfl
theorem kL(n:Nat)(x:Int)(hb:n<=8000000):
 Calls Tryz.prog 60 #[.int .i64 (n:Int),.int .i64 x] w fun e w'=>(∃v,e=.returned v/\o8 w' w.heap.size v (List.replicate n x))/\Ext w w':=by
 have U9:=jq n b9;have HR:=ae (show Row (w.alloc (.cells (bw (List.replicate n 0)) 3)) w.heap.size 3 (List.replicate n 0)from heap_alloc_new _ _);go_enter Tryz.func60,Tryz.ntmps60
 go_wp2_with fail
 go_loopg [11] n (fun gk ii wr=>∃k:Nat,b7 (gk+k=n)/\ii=.int .i64 (k:Int)/\b7 (Row wr w.heap.size 3 (List.replicate k x++List.replicate (n-k) 0))/\b7 (Ext w wr))
 case atStart=>exact⟨0,ae b9,rfl,ae (by simpa using HR.o),ae (Ext.alloc _ _)⟩
 case round =>
  obtain⟨g1,R⟩:=b8 gk;subst R;obtain⟨K,U⟩:=b8 wr;subst U;obtain⟨k,J,rfl,G,HX⟩:=hrel;by_cases hlt:k<n
  ·have hc:=G.o.cell (k:=k) (by simp;omega);have hf:=G.o.free k;have HN:=ae (show Row (K.setCell ⟨w.heap.size,k,none⟩ (.int .i64 x)) w.heap.size 3 (List.replicate (k+1) x++List.replicate (n-(k+1)) 0)by rw[<-Lg n x hlt];exact G.o.set k x);have xZ:=ae (HX.o.setCell (p:=⟨w.heap.size,k,none⟩) (Nat.le_refl _) (.int .i64 x));go_wp2_with fail
   go_roundg (g1-1)
   case measure=>have:=J.o;omega
   case rel=>exact⟨k+1,ae (j4 J.o),by go_num,HN,xZ⟩
  ·have O:k=n:=by have:=J.o;omega
   subst O;have I:=ae (show Row K w.heap.size 3 (List.replicate k x)by have:=G.o;simpa using this);go_wp2_with fail;go_ret;exact⟨⟨_,rfl,I.o.own (Nat.le_refl _) e7 b9⟩,HX.o⟩
def wW(l:j9)(k:Nat):j9:=l.map fun s=>wL (xt s (k:Int))
def zM(n:Nat)(l:j9):j7:=(List.range n).map (wW l)
theorem vB(k:Nat)(l:j9):zM k l++[wW l k]=zM (k+1) l:=by simp[zM,List.range_succ]
theorem oX{j k:Nat}{b:Bool}(h:j<l.length)(hb:xt (l[j]?.getD 0) (k:Int)=b):wW (l.take j) k++[wL b]=wW (l.take (j+1)) k:=by
 rw[cW h,<-hb];simp[wW]
theorem oR(n:Nat)(hn:n<=5){m cap:Nat}(h:Ints w a m cap l)(hl:∀k:Nat,l[k]?.getD 0<=9223372036854775807)(hm:m<=8000000):
 Calls Tryz.prog 59 #[.int .i64 (n:Int),.slice a m cap] w fun e w'=>(∃v,e=.returned v/\dI w' w.heap.size v (zM n l))/\Ext w w':=by
 have MQ:=h.o3;have MR:=h.l9;have HL:=ae h.hlen;have HI:=ae h;have y4:=ae hl;have HO:=ae (xe.yG w w.heap.size _ rfl (Nat.le_refl _));clear h hl;go_enter Tryz.func59,Tryz.ntmps59
 go_wp2_with fail
 go_loopg [5,13] n (fun gk out ii wr=>∃(k:Nat) (a1:j8) (n1 p1:Nat) (J:List Value),b7 (gk+k=n)/\ii=.int .i64 (k:Int)/\out=.slice a1 n1 p1/\b7 (xe wr w.heap.size (.slice a1 n1 p1) J)/\b7 (bC wr w.heap.size J (zM k l))/\b7 (Ext w wr))
 case atStart=>exact⟨0,_,_,_,[],ae b9,rfl,rfl,HO,ae (bC.nil _ _),ae (Ext.alloc _ _)⟩
 case round =>
  obtain⟨g1,r7⟩:=b8 gk;subst r7;obtain⟨K,o6⟩:=b8 wr;subst o6;obtain⟨k,a1,n1,p1,J,HK,rfl,rfl,HV,HR,HX⟩:=hrel;have Z:=HX.o.size;by_cases hlt:k<n
  ·have yE:=ae (o8.yG K K.heap.size _ rfl (Nat.le_refl _));have EI:=ae (show J.length=k by rw[HR.o.len];simp[zM]);go_wp2_with fail
   go_loopg [7,19] m (fun gk row ii wr=>∃(j:Nat) (a2:j8) (n2 p2:Nat),b7 (gk+j=m)/\ii=.int .i64 (j:Int)/\row=.slice a2 n2 p2/\b7 (o8 wr K.heap.size (.slice a2 n2 p2) (wW (l.take j) k))/\b7 (Ext K wr))
   case atStart=>exact⟨0,_,_,_,ae b9,rfl,rfl,yE,ae (Ext.alloc _ _)⟩
   case round =>
    obtain⟨g2,xK⟩:=b8 gk;subst xK;obtain⟨R,wT⟩:=b8 wr;subst wT;obtain⟨j,a2,n2,p2,O,rfl,rfl,I,G⟩:=hrel;have D3:=G.o.size;by_cases Ah:j<m
    ·obtain⟨b,off,ha,B0⟩:=(HI.o.ext (HX.o.trans G.o)).at Ah;subst ha;obtain⟨s,hs⟩:=b8 (l[j]?.getD 0);rw[<-hs]at B0;have F3:s<=9223372036854775807:=by rw[hs];exact y4.o j
     have QM:=ae (show(wW (l.take j) k).length=j by simp[wW];have:=HL.o;omega);have QO:=ae (gQ s (k:Int) R F3);cases J9:xt s (k:Int)
     case' true =>
      rw[J9]at QO;have u:=ae (show wW (l.take j) k++[(1:Int)]=wW (l.take (j+1)) k from oX (l:=l) (j:=j) (k:=k) (b:=true) (j4 HL.o) (by rw[hs]at J9;exact J9));clear J9
     case' false =>
      rw[J9]at QO;have u:=ae (show wW (l.take j) k++[(0:Int)]=wW (l.take (j+1)) k from oX (l:=l) (j:=j) (k:=k) (b:=false) (j4 HL.o) (by rw[hs]at J9;exact J9));clear J9
     all_goals
      clear hs;go_wp2_with fail;refine QO.o.mono ?_;rintro e w' ⟨rfl,rfl⟩
     ·go_wp2_with (first
       | (at_builtin;refine bm rfl _ _ rfl K.heap.size (.slice a2 n2 p2) _ rfl (I.o.ext (Ext.alloc _ _)) _ 1 _ [_] rfl (Ints.Ad _ _ _ _ e7) (by rw[QM.o];omega) (by simp;omega) ?_;intro v5 w5 ho hg l7;obtain⟨a5,W,U,rfl,A9⟩:=ho.var;have xL:=ae ho;have X5:=ae (al (G.o.trans (Ext.alloc _ _)) hg (fun j hj=>(I.o.lt j hj).1));clear ho hg l7))
      go_roundg (g2-1)
      case measure=>have:=O.o;omega
      case rel=>exact⟨j+1,a5,W,U,ae (j4 O.o),by go_num,rfl,ae (by rw[<-u.o];exact xL.o),X5⟩
     ·go_wp2_with (first
       | (at_builtin;refine bm rfl _ _ rfl K.heap.size (.slice a2 n2 p2) _ rfl (I.o.ext (Ext.alloc _ _)) _ 1 _ [_] rfl (Ints.Ad _ _ _ _ e7) (by rw[QM.o];omega) (by simp;omega) ?_;intro v5 w5 ho hg l7;obtain⟨a5,W,U,rfl,A9⟩:=ho.var;have xL:=ae ho;have X5:=ae (al (G.o.trans (Ext.alloc _ _)) hg (fun j hj=>(I.o.lt j hj).1));clear ho hg l7))
      go_roundg (g2-1)
      case measure=>have:=O.o;omega
      case rel=>exact⟨j+1,a5,W,U,ae (j4 O.o),by go_num,rfl,ae (by rw[<-u.o];exact xL.o),X5⟩
    ·have DE:j=m:=by have:=O.o;omega
     subst DE;have HT:=ae (show l.take j=l from List.take_of_length_le (by rw[HL.o];exact Nat.le_refl _));rw[HT.o]at I
     go_wp2_with (first
      | (at_builtin;refine eL rfl _ _ rfl w.heap.size (.slice a1 n1 p1) J rfl ((HV.o.ext G.o).ext (Ext.alloc _ _)) _ _ 1 rfl (by simp;rfl) rfl (j4 EI.o) (by simp;omega) ?_;intro v6 w6 ho hg l7;obtain⟨a6,n6,p6,rfl,Jg⟩:=ho.var;have BU:=ae ho;have Et:=ae (((HR.o.snoc G.o I.o Z).ext (Ext.alloc _ _)).AM ((HV.o.ext G.o).ext (Ext.alloc _ _)) hg);have X6:=ae (al ((HX.o.trans G.o).trans (Ext.alloc _ _)) hg (fun j hj=>(HV.o.lt j hj).1));clear ho hg l7))
     go_roundg (g1-1)
     case measure=>have:=HK.o;omega
     case rel=>exact⟨k+1,a6,n6,p6,_,ae (j4 HK.o),by go_num,rfl,BU,ae (by rw[<-vB];exact Et.o),X6⟩
  ·have xQ:k=n:=by have:=HK.o;omega
   subst xQ;go_wp2_with fail;go_ret;exact⟨⟨_,rfl,J,HV.o,HR.o⟩,HX.o⟩
end Go.Proofs.YtalmoolkhcgmmaaGreat
