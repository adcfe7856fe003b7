import Derived.Test.YtdadoignenffgaaGreatDoorSvAllG9
import Derived.Test.YtdadoignenffgaaGreatDoorSvAllG12
import Derived.Deep.DeepCutAuto
set_option linter.unusedVariables false
set_option linter.unusedSimpArgs false
namespace Go.Proofs.YtdadoignenffgaaGreatDoor
variable{w:World}{a:j6}{l:j7}
set_option maxHeartbeats 16000000
set_option maxRecDepth 100000
open Go.RowKit
theorem Ju{c:Nat}{p r:j7}{j:Nat}(h:j<r.length):(vC c p r).take j++[r[j]?.getD 0*p[c]?.getD 0-r[c]?.getD 0*p[j]?.getD 0]=(vC c p r).take (j+1):=by
 rw[cH (by rw[ef];exact h),gG h]
theorem uF{base:Nat}{N cap n:Nat}{Wj:List Value}{M:j5}(h:zd w base a N cap Wj M)(hg:Good n 1 M)(h1:1<=n)(h5:n<=5)(hN:N<=1048576)(hb:base<=w.heap.size):
 Calls Tryz.prog 181 #[.slice a N cap,.int .i64 (n:Int)] w fun e w'=>e=.returned (.int .i64 ((runM vC M n).2:Int))/\Below base w w':=by
 have Km:=h.cap.1;have Kn:=h.cap.2;have IB:=ae h;have HG:=ae hg;have NW:=ae h.len;clear h hg;go_enter Tryz.func181,Tryz.ntmps181
 go_wp2_with fail
 go_loopg [5,6] n (fun gk rk jj wr=>∃(c d:Nat) (vs:List Value) (K:j5),b7 (gk+c=n)/\jj=.int .i64 (c:Int)/\rk=.int .i64 (d:Int)/\b7 (runM vC M c=(K,d))/\b7 (zd wr base a N cap vs K)/\b7 (Below base w wr))
 case atStart=>exact⟨0,0,Wj,M,ae e7,rfl,rfl,ae rfl,IB,ae (Below.refl _ _)⟩
 case round =>
  obtain⟨g1,o6⟩:=b9 gk;subst o6;obtain⟨o8,o4⟩:=b9 wr;subst o4;obtain⟨c,d,vs,K,HK,rfl,rfl,HR,HM,HB⟩:=hrel;by_cases hlt:c<n
  ·have wj:=gJ qq HG.o c e7;rw[HR.o]at wj;obtain⟨Fb,Qz,LJ,D0⟩:=wj;simp only at Fb Qz LJ D0;have L4:=ae D0;have O:=ae (show K.length=N by rw[Qz,NW.o]);rw[NW.o]at LJ;obtain⟨P,hP⟩:=b9 (wP K c d);have HP:=ae hP;have Oz:=rC K c (d:=d) (by rw[O.o];exact LJ);rw[<-hP,O.o]at Oz;obtain⟨hdP,hPN⟩:=Oz;have SP:=HB.o.size;clear Qz D0 hP;go_wp2_with fail
   go_loop [7] (fun Za=>∃k:Nat,Za=.int .i64 (k:Int)/\b7 (d<=k)/\b7 (k<=P)) (fun Za=>P-(intOf Za).toNat)
   case atStart=>exact⟨d,rfl,ae (Nat.le_refl _),ae hdP⟩
   case round =>
    obtain⟨k,rfl,HDK,HKP⟩:=hrel;have A8:=HDK.o;have OD:=HKP.o;by_cases hkP:k<P
    ·have W:k<N:=by omega
     obtain⟨G,rfl,_,_,_⟩:=HM.o.outer e7;obtain⟨g,gc,hvs,hcell,wQ,hne,_,_,_,_⟩:=HM.o.row W (L4.o k (by rw[O.o];exact W)).1 h1;obtain⟨b,off,he,wK⟩:=wQ.ints.at hlt;simp only[Option.some.injEq,Addr.mk.injEq,and_true]at he;obtain⟨rfl,rfl⟩:=he;rw[Nat.zero_add,uo (by rw[O.o];exact LJ) A8 (by rw[<-HP.o];exact hkP)]at wK;clear hvs wQ hne;go_wp2_with fail
     go_round
     case rel=>exact⟨k+1,by go_num,ae e7,ae e7⟩
     case measure=>simp[intOf];omega
    ·have XT:k=P:=by omega
     subst XT;by_cases W:k<N
     ·obtain⟨G,rfl,CB,Hl,CX⟩:=HM.o.outer e7;have Kh:=CX k;have Iq:=CX d;clear CX;have AG:=ea (M:=K) (c:=c) (d:=d) (by rw[<-HP.o,O.o];exact W);rw[<-HP.o]at AG;obtain⟨gp,cp,U,Kl,J,OA,TM,Yd,XB,Yv⟩:=HM.o.row W (L4.o k (by rw[O.o];exact W)).1 h1;obtain⟨gd,cd,LG,Nn,Xr,hnd,Fc,Yh,Tc,YB⟩:=HM.o.row (show d<N by omega) (L4.o d (by rw[O.o];omega)).1 h1;obtain⟨b,off,he,wK⟩:=J.ints.at hlt;simp only[Option.some.injEq,Addr.mk.injEq,and_true]at he;obtain⟨rfl,rfl⟩:=he;rw[Nat.zero_add]at wK;obtain⟨Q,MZ⟩:=b9 ((K[k]?.getD [])[c]?.getD 0);rw[<-MZ]at wK AG;have FZ:Q≠0:=AG.2.1;have hpcb:(Q == 0)=false:=by simpa using FZ
      have B9:=HM.o.swap W (show d<N by omega);rw[U,LG]at B9;obtain⟨M1,Hk⟩:=b9 (swp K k d);obtain⟨vs1,ES⟩:=b9 (FL vs k d);have HVP:=ae (show vs1[d]?.getD undef=.slice (some ⟨gp,0,none⟩) n cp by rw[ES,iD (by rw[HM.o.yy];exact W) (by rw[HM.o.yy];omega),if_pos rfl,U]);have Gq:=ae (show Good n (Fz d) M1 by rw[Hk];exact gQ L4.o (by rw[O.o];exact W) (by rw[O.o];omega));have B5:=ae (show M1.length=N by rw[Hk,cI,O.o])
      have CN:=ae (show runM vC M (c+1)=(xY vC c M1 d N,d+1)by
       show yQ vC c (runM vC M c)=_;rw[HR.o];unfold yQ;simp only
       rw[<-HP.o,O.o,if_pos W,Hk,IP K (a:=k) (b:=d) (by rw[O.o];exact W) (by rw[O.o];omega)])
      rw[<-Hk,<-ES]at B9;have zx:=ae B9;have yJ:d<N:=by omega
      have yN:=ae ((HB.o.setCell (p:=⟨G,k,none⟩) CB (.slice (some ⟨gd,0,none⟩) n cd)).setCell (p:=⟨G,d,none⟩) CB (.slice (some ⟨gp,0,none⟩) n cp));clear B9 AG J Xr MZ U LG Hk ES;by_cases wH:d=k
      case' pos =>
       subst wH;have xH:=Kl.symm.trans Nn;simp only[Option.some.injEq,Value.slice.injEq,Addr.mk.injEq,and_true,true_and]at xH;obtain⟨rfl,rfl⟩:=xH;clear Nn
      case' neg=>have hkd':¬k=d:=fun e=>wH e.symm
      all_goals
       go_wp2_with fail;clear Kl
       try clear Nn
       have Ve:=ae CB
       go_loopg [9] (N-(d+1)) (fun g3 i E=>∃(t:Nat) (Z:List Value),b7 (g3+t=N)/\i=.int .i64 (t:Int)/\b7 (d<t)/\b7 (zd E base (some ⟨G,0,none⟩) N cap Z (xY vC c M1 d t))/\b7 (Below base w E)/\b7 (Z[d]?.getD undef=.slice (some ⟨gp,0,none⟩) n cp))
       case atStart=>exact⟨d+1,vs1,ae e7,by go_num,ae e7,ae (by rw[lV];exact zx.o),yN,HVP⟩
       case round =>
        obtain⟨g3,AT⟩:=b9 gk;subst AT;obtain⟨E,yE⟩:=b9 wr;subst yE;obtain⟨t,Z,HT,rfl,N8,Cc,yF,HV3⟩:=hrel;by_cases PK:t<N
        ·have Yn:=N8.o;have U':=ae (show Good n (Fz (d+1)) (xY vC c M1 d t)from kC Gq.o (fi d e7).2.2 (by rw[B5.o];exact yJ) fun p r BR CS h5 h6=>qq _ n c p r (fi d e7).1 BR CS h5 h6);have xW:=ae (show(xY vC c M1 d t).length=N by rw[dm,B5.o]);obtain⟨G',zi,_,YW,CX⟩:=Cc.o.outer e7;simp only[Option.some.injEq,Addr.mk.injEq,and_true]at zi;subst zi;have hft:=CX t;clear CX;obtain⟨gt,ct,FX,VD,CW,hnt,_,_,Xz,Yt⟩:=Cc.o.row PK (U'.o t (by rw[xW.o];exact PK)).1 h1;obtain⟨gp',cp',U,hcp3,J,hnp3,_,_,_,_⟩:=Cc.o.row yJ (U'.o d (by rw[xW.o];exact yJ)).1 h1;have xH:=HV3.o.symm.trans U;simp only[Value.slice.injEq,Option.some.injEq,Addr.mk.injEq,and_true,true_and]at xH;obtain⟨rfl,rfl⟩:=xH;rw[fC _ _ _ _ _ _ (by rw[B5.o];exact PK) e7]at CW;rw[fC _ _ _ _ _ _ (by rw[B5.o];exact yJ) e7]at J;obtain⟨r,hr⟩:=b9 (M1[t]?.getD []);obtain⟨p,hp⟩:=b9 (M1[d]?.getD []);rw[<-hr]at CW;rw[<-hp]at J;have Ak:=ae (Gq.o t (by rw[B5.o];exact PK));have Em:=ae (Gq.o d (by rw[B5.o];exact yJ));rw[<-hr]at Ak;rw[<-hp]at Em;have HOT:=ae CW;have Dy:=ae J;have zE:=ae hr;have Lc:=ae hp;obtain⟨b,off,he,wK⟩:=CW.ints.at hlt;simp only[Option.some.injEq,Addr.mk.injEq,and_true]at he;obtain⟨rfl,rfl⟩:=he
         rw[Nat.zero_add]at wK;obtain⟨b,off,he,FZ⟩:=J.ints.at hlt;simp only[Option.some.injEq,Addr.mk.injEq,and_true]at he;obtain⟨rfl,rfl⟩:=he;rw[Nat.zero_add]at FZ;obtain⟨rc,J1⟩:=b9 (r[c]?.getD 0);obtain⟨Q,MZ⟩:=b9 (p[c]?.getD 0);rw[<-J1]at wK;rw[<-MZ]at FZ;have Gk:=ae J1;have Ed:=ae MZ;have HO:=ae (o5.wJ E E.heap.size _ rfl (Nat.le_refl _));clear FX U CW J hr hp J1 MZ;go_wp2_with fail
         go_loopg [11,12] n (fun g4 nx kk I=>∃(j:Nat) (a1:j6) (n1 p1:Nat),b7 (g4+j=n)/\kk=.int .i64 (j:Int)/\nx=.slice a1 n1 p1/\b7 (o5 I E.heap.size (.slice a1 n1 p1) ((vC c p r).take j))/\b7 (Ext E I))
         case atStart=>exact⟨0,_,_,_,ae e7,rfl,rfl,HO,ae (Ext.alloc _ _)⟩
         case round =>
          obtain⟨g4,Kw⟩:=b9 gk;subst Kw;obtain⟨I,Ff⟩:=b9 wr;subst Ff;obtain⟨j,a1,n1,p1,HJ,rfl,rfl,wV,xO⟩:=hrel;have PQ:=xO.o.size;by_cases A6:j<n
          ·obtain⟨b,off,he,RD⟩:=HOT.o.ints.at A6;simp only[Option.some.injEq,Addr.mk.injEq,and_true]at he;obtain⟨rfl,rfl⟩:=he;rw[Nat.zero_add]at RD;obtain⟨b,off,he,RH⟩:=Dy.o.ints.at A6;simp only[Option.some.injEq,Addr.mk.injEq,and_true]at he;obtain⟨rfl,rfl⟩:=he;rw[Nat.zero_add]at RH;obtain⟨rj,PS⟩:=b9 (r[j]?.getD 0);obtain⟨pj,AP⟩:=b9 (p[j]?.getD 0);rw[<-PS]at RD;rw[<-AP]at RH;have xS:=fi d e7;have xL:=fA (B:=32768) (x:=rj) (y:=Q) (j1 (Ak.o.2 j)) (j1 (Ak.o.2 j)) (by have:=Em.o.2 c;have:=Ed.o;omega) (by have:=Em.o.2 c;have:=Ed.o;omega);have wU:=fA (B:=32768) (x:=pj) (y:=rc) (j1 (Em.o.2 j)) (j1 (Em.o.2 j)) (by have:=Ak.o.2 c;have:=Gk.o;omega) (by have:=Ak.o.2 c;have:=Gk.o;omega);have DG:IntKind.i64.wrap (rj*Q)=rj*Q:=by rw[IntKind.wrap_i64];omega
           have AM:IntKind.i64.wrap (pj*rc)=pj*rc:=by rw[IntKind.wrap_i64];omega
           have DF:IntKind.i64.wrap (rj*Q-pj*rc)=rj*Q-pj*rc:=by rw[IntKind.wrap_i64];omega
           have HV:=ae (show rj*Q-pj*rc=r[j]?.getD 0*p[c]?.getD 0-r[c]?.getD 0*p[j]?.getD 0 by rw[<-PS,<-AP,<-Ed.o,<-Gk.o,Int.mul_comm pj rc]);have NX:=ae (show((vC c p r).take j).length=j by rw[List.length_take,ef,Ak.o.1];omega);clear PS AP xL wU xS;have k7:Ext E I.drew:=xO.o.trans (Ext.drew I);have M7:Ext E (I.alloc (.cells #[.int .i64 (rj*Q-pj*rc)] 3)).drew:=(xO.o.trans (Ext.alloc _ _)).trans (Ext.drew _);have k8:=ae (fun(w':World) (h:Ext E w')=>(⟨h.j9 VD,h.j9 RD,h.j9 FZ,h.j9 RH,h⟩:w'.cell? ⟨G,t,none⟩=some (.slice (some ⟨gt,0,none⟩) n ct)/\w'.cell? ⟨gt,j,none⟩=some (.int .i64 rj)/\w'.cell? ⟨gp,c,none⟩=some (.int .i64 Q)/\w'.cell? ⟨gp,j,none⟩=some (.int .i64 pj)/\Ext E w'));go_wp2_with fail
           go_region_held3 (fun w'=>w'.cell? ⟨G,t,none⟩=some (.slice (some ⟨gt,0,none⟩) n ct)/\w'.cell? ⟨gt,j,none⟩=some (.int .i64 rj)/\w'.cell? ⟨gp,c,none⟩=some (.int .i64 Q)/\w'.cell? ⟨gp,j,none⟩=some (.int .i64 pj)/\Ext E w')
            (first
              | with_reducible exact k8.o _ k7
              | with_reducible exact k8.o _ M7)
            (first
              | (refine bW _ j0 ?_
                 refine cD _ _ j0 E.heap.size (.slice a1 n1 p1) _ j0 ((wV.o.ext (Ext.alloc I _)).ext (Ext.drew _)) _ 1 _ [rj*Q-pj*rc] j0 ((Ints.zp I _ _ _ rfl).ext (Ext.drew _)) (by rw[NX.o];omega) (by simp;omega) ?_;intro v5 w5 ho hg l7;obtain⟨a5,n5,p5,rfl,zj⟩:=ho.var;have vU:=ae ho;have k7:Ext E w5:=ak M7 hg (fun j hj=>(wV.o.lt j hj).1)
                 clear ho hg l7)
              | fail)
           have HK5:=ae k7;clear k7 k8;go_wp2_with fail
           go_roundg (g4-1)
           case measure=>have:=HJ.o;omega
           case rel=>exact⟨j+1,a5,n5,p5,ae (j1 HJ.o),by go_num,rfl,ae (by rw[<-Ju (by rw[Ak.o.1];exact A6),<-HV.o];exact vU.o),HK5⟩
          ·have E8:j=n:=by have:=HJ.o;omega
           subst E8;have ZB:=ae (Cc.o.put xO.o (Nat.le_trans hb yF.o.size) wV.o PK);have R5:=ae (show(Z.set t (.slice a1 n1 p1))[d]?.getD undef=.slice (some ⟨gp,0,none⟩) j cp by rw[List.getElem?_set_ne e7];exact HV3.o)
           have HMX:=ae (show(xY vC c M1 d t).set t ((vC c p r).take j)=xY vC c M1 d (t+1)by
            rw[List.take_of_length_le (by rw[ef,Ak.o.1];exact Nat.le_refl _),zE.o,Lc.o]
            exact jy _ _ _ _ _ Yn (by rw[B5.o];exact PK))
           have EI:=ae ((yF.o.trans (Below.mono xO.o (Nat.le_trans hb yF.o.size))).setCell (p:=⟨G,t,none⟩) Ve.o (.slice a1 n1 p1));have hct4:=xO.o.j9 VD;have hft4:I.frozen? ⟨G,t,none⟩=false:=(xO.o.Nt _ _ YW).trans hft;go_wp2_with fail
           go_roundg (g3-1)
           case measure=>have:=HT.o;omega
           case rel=>exact⟨t+1,_,ae (j1 HT.o),by go_num,ae e7,ae (by rw[<-HMX.o];exact ZB.o),EI,R5⟩
        ·have JW:t=N:=by have:=HT.o;omega
         subst JW;go_wp2_with fail
         go_roundg (g1-1)
         case measure=>have:=HK.o;omega
         case rel=>exact⟨c+1,d+1,Z,_,ae (j1 HK.o),by go_num,by go_num,CN,Cc,yF⟩
     ·have CN:=ae (show runM vC M (c+1)=(K,d)by
       show yQ vC c (runM vC M c)=_;rw[HR.o];unfold yQ;simp only
       rw[<-HP.o,O.o,if_neg W])
      have XU:k=N:=by omega
      subst XU;go_wp2_with fail
      go_roundg (g1-1)
      case measure=>have:=HK.o;omega
      case rel=>exact⟨c+1,d,vs,K,ae (j1 HK.o),by go_num,rfl,CN,HM,HB⟩
  ·have Nl:c=n:=by have:=HK.o;omega
   subst Nl;go_wp2_with fail;go_ret;exact⟨aD (by rw[HR.o]),HB.o⟩
theorem vv.wJ(w:World)(base n:Nat)(hn:n=w.heap.size)(hb:base<=w.heap.size):vv (w.alloc (.cells #[] 30)) base (.slice (some ⟨n,0,none⟩) 0 0) []:=by
 subst hn;exact World.ownsRow_lit w #[] 0 hb e7 rfl
theorem I6{n:Int}{m cap:Nat}(h:Ints w a m cap l)(hl:∀k:Nat,l[k]?.getD 0<=9223372036854775807)(hm:m<=1048576):
 Calls Tryz.prog 114 #[.int .i64 n,.slice a m cap] w fun e w'=>e=.returned (.int .i64 (gq n l))/\Ext w w':=by
 have Km:=h.l8;have Kn:=h.o0;have HL:=ae h.hlen;have HI:=ae h;have xi:=ae hl;clear h hl;cases wq:r' n 1 5
 ·have HN:=ae (show gq n l=0 by unfold gq;rw[wq];rfl);have O:=ae (bm n 1 5 w);rw[wq]at O;clear wq;go_enter Tryz.func114,Tryz.ntmps114
  go_wp2_with fail;refine O.o.mono ?_;rintro e w1 ⟨rfl,rfl⟩;go_wp2_with fail;go_ret;exact⟨aD HN.o.symm,Ext.refl _⟩
 ·obtain⟨E,rfl⟩:∃k:Nat,n=k:=⟨n.toNat,by simp only[r',Bool.and_eq_true,decide_eq_true_eq]at wq;omega⟩;have Y2:1<=E/\E<=5:=by simp only[r',Bool.and_eq_true,decide_eq_true_eq]at wq;omega
  obtain⟨h1,h5⟩:=Y2;have HN:=ae (show gq (E:Int) l=((runM vC (l.map (ys E)) E).2:Int)by unfold gq;rw[if_pos wq];rfl);have O:=ae (bm E 1 5 w);rw[wq]at O;have HO:=ae (vv.wJ w w.heap.size _ rfl (Nat.le_refl _));clear wq;go_enter Tryz.func114,Tryz.ntmps114
  go_wp2_with fail;refine O.o.mono ?_;rintro e w1 ⟨rfl,rfl⟩;go_wp2_with fail
  go_loopg [5,6] m (fun gk out i wr=>∃(k:Nat) (a1:j6) (K p1:Nat) (I:List Value),b7 (gk+k=m)/\i=.int .i64 (k:Int)/\out=.slice a1 K p1/\b7 (vv wr w.heap.size (.slice a1 K p1) I)/\b7 (bu wr w.heap.size I ((l.take k).map (ys E)))/\b7 (Ext w wr))
  case atStart=>exact⟨0,_,_,_,[],ae e7,rfl,rfl,HO,ae (bu.nil _ _),ae (Ext.alloc _ _)⟩
  case round =>
   obtain⟨g1,o6⟩:=b9 gk;subst o6;obtain⟨J,o4⟩:=b9 wr;subst o4;obtain⟨k,a1,K,p1,I,W,rfl,rfl,HV,HR,HX⟩:=hrel;have hsz:=HX.o.size;by_cases hlt:k<m
   ·obtain⟨b,off,ha,AO⟩:=(HI.o.ext HX.o).at hlt;subst ha;obtain⟨s,hs⟩:=b9 (l[k]?.getD 0);rw[<-hs]at AO;have HS:=ae hs;have G8:s<=9223372036854775807:=by rw[hs];exact xi.o k
    have wG:=ae (o5.wJ J J.heap.size _ rfl (Nat.le_refl _));have EF:=ae (show I.length=k by rw[HR.o.len,List.length_map,List.length_take];have:=HL.o;omega);clear hs;go_wp2_with fail
    go_loopg [7,8] E (fun gk row i wr=>∃(j:Nat) (a2:j6) (Q p2:Nat),b7 (gk+j=E)/\i=.int .i64 (j:Int)/\row=.slice a2 Q p2/\b7 (o5 wr J.heap.size (.slice a2 Q p2) (ys j s))/\b7 (Ext J wr))
    case atStart=>exact⟨0,_,_,_,ae e7,rfl,rfl,wG,ae (Ext.alloc _ _)⟩
    case round =>
     obtain⟨g2,wv⟩:=b9 gk;subst wv;obtain⟨wr2,vo⟩:=b9 wr;subst vo;obtain⟨j,a2,Q,p2,HJ,rfl,rfl,U,G⟩:=hrel;have BP:=G.o.size;by_cases A6:j<E
     ·have Cs:=G.o.j9 AO;have NX:=ae (iK j s)
      go_wp2_with (first
       | (go_at_call 40;refine(eg s (j:Int) _ G8).mono ?_;rintro e w' ⟨rfl,rfl⟩)
       | (go_at_call 104;refine(fD (yq s (j:Int)) _).mono ?_;rintro e w' ⟨rfl,rfl⟩)
       | (at_builtin;refine bv rfl _ _ rfl J.heap.size (.slice a2 Q p2) _ rfl (U.o.ext (Ext.alloc _ _)) _ 1 _ [vX (yq s (j:Int))] rfl (Ints.zp _ _ _ _ e8) (by rw[NX.o];omega) (by simp;omega) ?_;intro v5 w5 ho hg l7;obtain⟨a5,n5,p5,rfl,zj⟩:=ho.var;have vU:=ae ho;have X5:=ae (ak (G.o.trans (Ext.alloc _ _)) hg (fun j hj=>(U.o.lt j hj).1));clear ho hg l7))
      go_roundg (g2-1)
      case measure=>have:=HJ.o;omega
      case rel=>exact⟨j+1,a5,n5,p5,ae (j1 HJ.o),by go_num,rfl,ae (by rw[<-mW];exact vU.o),X5⟩
     ·have E8:j=E:=by have:=HJ.o;omega
      subst E8
      go_wp2_with (first
       | (at_builtin;refine eF rfl _ _ rfl w.heap.size (.slice a1 K p1) I rfl ((HV.o.ext G.o).ext (Ext.alloc _ _)) _ _ 1 rfl (by simp;rfl) rfl (j1 EF.o) (by simp;omega) ?_;intro v6 w6 ho hg l7;obtain⟨a6,n6,p6,rfl,Eh⟩:=ho.var;have yT:=ae ho;have Iz:=ae (((HR.o.snoc G.o U.o hsz).ext (Ext.alloc _ _)).CD ((HV.o.ext G.o).ext (Ext.alloc _ _)) hg);have X6:=ae (ak ((HX.o.trans G.o).trans (Ext.alloc _ _)) hg (fun j hj=>(HV.o.lt j hj).1));clear ho hg l7))
      go_roundg (g1-1)
      case measure=>have:=W.o;omega
      case rel=>exact⟨k+1,a6,n6,p6,_,ae (j1 W.o),by go_num,rfl,yT,ae (by rw[cH (j1 HL.o),List.map_append,<-HS.o];exact Iz.o),X6⟩
   ·have Z:k=m:=by have:=W.o;omega
    subst Z;have HT:=ae (show l.take k=l from List.take_of_length_le (by rw[HL.o];exact Nat.le_refl _));have Lg:=ae (show K=k by rw[<-HV.o.len,HR.o.len,HT.o,List.length_map,HL.o]);have HM:=ae (show zd J w.heap.size a1 K p1 I (l.map (ys E))from⟨HV.o,by have:=HR.o;rw[HT.o]at this;exact this⟩);have HC:=ae (uF HM.o (iL E l) h1 h5 (by rw[Lg.o];exact hm) hsz);go_wp2_with fail;refine HC.o.mono ?_;rintro e w2 ⟨rfl,hb⟩;have HB:=ae (HX.o.EJ hb);clear hb;go_wp2_with fail;go_ret;exact⟨aD HN.o.symm,HB.o⟩
theorem uL(k:Int)(m:Nat):yA k m++[k+(m:Int)]=yA k (m+1):=by simp[yA,List.range_succ]
theorem jt(lo hi:Int)(n:Nat)(h0:0<=lo)(h1:lo<=1000)(hn:hi+1-lo=n)(hb:n<=1000):
 Calls Tryz.prog 125 #[.int .i64 lo,.int .i64 hi] w fun e w'=>(∃v,e=.returned v/\o5 w' w.heap.size v (yA lo n))/\Ext w w':=by
 have HN:=ae hn;have E:hi=lo+(n:Int)-1:=by omega
 have hh1:-1<=hi:=by omega
 have hh2:hi<=2000:=by omega
 have HH:=ae E;have HO:=ae (o5.wJ w w.heap.size _ rfl (Nat.le_refl _));clear hn E;go_enter Tryz.func125,Tryz.ntmps125
 go_wp2_with fail
 go_loopg [5,6] n (fun gk oo ii wr=>∃(k:Nat) (i:Int) (a1:j6) (I p1:Nat),b7 (gk+k=n)/\b7 (i=lo+(k:Int))/\ii=.int .i64 i/\oo=.slice a1 I p1/\b7 (o5 wr w.heap.size (.slice a1 I p1) (yA lo k))/\b7 (Ext w wr))
 case atStart=>exact⟨0,lo,_,_,_,ae e7,ae e7,rfl,rfl,HO,ae (Ext.alloc _ _)⟩
 case round =>
  obtain⟨g1,O⟩:=b9 gk;subst O;obtain⟨o8,Q⟩:=b9 wr;subst Q;obtain⟨k,i,a1,I,p1,G,HI,rfl,rfl,vw,HX⟩:=hrel;have hsz:=HX.o.size;have Ts:0<=i:=by have:=HI.o;omega
  have VA:i<=2001:=by have:=HI.o;have:=G.o;omega
  by_cases hlt:k<n
  ·have hle:i<=hi:=by have:=HI.o;have:=HH.o;omega
   have HL:=ae (pX lo k)
   go_wp2_with (first
    | (at_builtin;refine bv rfl _ _ rfl w.heap.size (.slice a1 I p1) _ rfl (vw.o.ext (Ext.alloc _ _)) _ 1 _ [i] rfl (Ints.zp _ _ _ _ e8) (by rw[HL.o];have:=G.o;omega) (by simp;omega) ?_;intro v5 w5 ho hg l7;obtain⟨a5,U,K,rfl,zj⟩:=ho.var;have vU:=ae ho;have X5:=ae (ak (HX.o.trans (Ext.alloc _ _)) hg (fun j hj=>(vw.o.lt j hj).1));clear ho hg l7))
   go_roundg (g1-1)
   case measure=>have:=G.o;omega
   case rel=>exact⟨k+1,i+1,a5,U,K,ae (j1 G.o),ae (j1 HI.o),rfl,rfl,ae (by have:=vU.o;rw[HI.o,uL]at this;exact this),X5⟩
  ·have J:k=n:=by have:=G.o;omega
   have Xx:¬i<=hi:=by have:=HI.o;have:=HH.o;omega
   subst J;go_wp2_with fail;go_ret;exact⟨⟨_,rfl,vw.o⟩,HX.o⟩
theorem I8(n:Nat)(x:Int){k:Nat}(h:k<n):(List.replicate k x++List.replicate (n-k) 0).set k x=List.replicate (k+1) x++List.replicate (n-(k+1)) 0:=by
 rw[List.set_append_right _ _ e8];simp only[List.length_replicate,Nat.sub_self];obtain⟨d,hd⟩:∃d,n-k=d+1:=⟨n-k-1,by omega⟩;rw[hd,List.replicate_succ,List.set_cons_zero,show n-(k+1)=d by omega,List.replicate_succ',List.append_assoc]
 rfl
theorem jL(n:Nat)(x:Int)(hb:n<=8000000):
 Calls Tryz.prog 126 #[.int .i64 (n:Int),.int .i64 x] w fun e w'=>(∃v,e=.returned v/\o5 w' w.heap.size v (List.replicate n x))/\Ext w w':=by
 have M5:=gH n e7;have HR:=ae (show Row (w.alloc (.cells (bh (List.replicate n 0)) 3)) w.heap.size 3 (List.replicate n 0)from heap_alloc_new _ _);go_enter Tryz.func126,Tryz.ntmps126
 go_wp2_with fail
 go_loopg [11] n (fun gk ii wr=>∃k:Nat,b7 (gk+k=n)/\ii=.int .i64 (k:Int)/\b7 (Row wr w.heap.size 3 (List.replicate k x++List.replicate (n-k) 0))/\b7 (Ext w wr))
 case atStart=>exact⟨0,ae e7,rfl,ae (by simpa using HR.o),ae (Ext.alloc _ _)⟩
 case round =>
  obtain⟨g1,Q⟩:=b9 gk;subst Q;obtain⟨J,U⟩:=b9 wr;subst U;obtain⟨k,I,rfl,E,HX⟩:=hrel;by_cases hlt:k<n
  ·have hc:=E.o.cell (k:=k) (by simp;omega);have hf:=E.o.free k;have HN:=ae (show Row (J.setCell ⟨w.heap.size,k,none⟩ (.int .i64 x)) w.heap.size 3 (List.replicate (k+1) x++List.replicate (n-(k+1)) 0)by rw[<-I8 n x hlt];exact E.o.set k x);have K:=ae (HX.o.setCell (p:=⟨w.heap.size,k,none⟩) (Nat.le_refl _) (.int .i64 x));go_wp2_with fail
   go_roundg (g1-1)
   case measure=>have:=I.o;omega
   case rel=>exact⟨k+1,ae (j1 I.o),by go_num,HN,K⟩
  ·have O:k=n:=by have:=I.o;omega
   subst O;have G:=ae (show Row J w.heap.size 3 (List.replicate k x)by have:=E.o;simpa using this);go_wp2_with fail;go_ret;exact⟨⟨_,rfl,G.o.own (Nat.le_refl _) e8 e7⟩,HX.o⟩
def xd(l:j7)(k:Nat):j7:=l.map fun s=>vX (yq s (k:Int))
def xz(n:Nat)(l:j7):j5:=(List.range n).map (xd l)
theorem nw(k:Nat)(l:j7):xz k l++[xd l k]=xz (k+1) l:=by simp[xz,List.range_succ]
theorem jx{j k:Nat}{b:Bool}(h:j<l.length)(hb:yq (l[j]?.getD 0) (k:Int)=b):xd (l.take j) k++[vX b]=xd (l.take (j+1)) k:=by
 rw[cH h,<-hb];simp[xd]
theorem nm(n:Nat)(hn:n<=5){m cap:Nat}(h:Ints w a m cap l)(hl:∀k:Nat,l[k]?.getD 0<=9223372036854775807)(hm:m<=8000000):
 Calls Tryz.prog 124 #[.int .i64 (n:Int),.slice a m cap] w fun e w'=>(∃v,e=.returned v/\cV w' w.heap.size v (xz n l))/\Ext w w':=by
 have Km:=h.l8;have Kn:=h.o0;have HL:=ae h.hlen;have HI:=ae h;have xi:=ae hl;have HO:=ae (vv.wJ w w.heap.size _ rfl (Nat.le_refl _));clear h hl;go_enter Tryz.func124,Tryz.ntmps124
 go_wp2_with fail
 go_loopg [5,13] n (fun gk out ii wr=>∃(k:Nat) (a1:j6) (O p1:Nat) (G:List Value),b7 (gk+k=n)/\ii=.int .i64 (k:Int)/\out=.slice a1 O p1/\b7 (vv wr w.heap.size (.slice a1 O p1) G)/\b7 (bu wr w.heap.size G (xz k l))/\b7 (Ext w wr))
 case atStart=>exact⟨0,_,_,_,[],ae e7,rfl,rfl,HO,ae (bu.nil _ _),ae (Ext.alloc _ _)⟩
 case round =>
  obtain⟨g1,o6⟩:=b9 gk;subst o6;obtain⟨J,o4⟩:=b9 wr;subst o4;obtain⟨k,a1,O,p1,G,HK,rfl,rfl,HV,HR,HX⟩:=hrel;have hsz:=HX.o.size;by_cases hlt:k<n
  ·have wG:=ae (o5.wJ J J.heap.size _ rfl (Nat.le_refl _));have EF:=ae (show G.length=k by rw[HR.o.len];simp[xz]);go_wp2_with fail
   go_loopg [7,19] m (fun gk row ii wr=>∃(j:Nat) (a2:j6) (K p2:Nat),b7 (gk+j=m)/\ii=.int .i64 (j:Int)/\row=.slice a2 K p2/\b7 (o5 wr J.heap.size (.slice a2 K p2) (xd (l.take j) k))/\b7 (Ext J wr))
   case atStart=>exact⟨0,_,_,_,ae e7,rfl,rfl,wG,ae (Ext.alloc _ _)⟩
   case round =>
    obtain⟨g2,wv⟩:=b9 gk;subst wv;obtain⟨Q,vo⟩:=b9 wr;subst vo;obtain⟨j,a2,K,p2,HJ,rfl,rfl,I,E⟩:=hrel;have BP:=E.o.size;by_cases A6:j<m
    ·obtain⟨b,off,ha,AO⟩:=(HI.o.ext (HX.o.trans E.o)).at A6;subst ha;obtain⟨s,hs⟩:=b9 (l[j]?.getD 0);rw[<-hs]at AO;have G8:s<=9223372036854775807:=by rw[hs];exact xi.o j
     have NX:=ae (show(xd (l.take j) k).length=j by simp[xd];have:=HL.o;omega);have N2:=ae (fH s (k:Int) Q G8);cases Ip:yq s (k:Int)
     case' true =>
      rw[Ip]at N2;have Z:=ae (show xd (l.take j) k++[(1:Int)]=xd (l.take (j+1)) k from jx (l:=l) (j:=j) (k:=k) (b:=true) (j1 HL.o) (by rw[hs]at Ip;exact Ip));clear Ip
     case' false =>
      rw[Ip]at N2;have Z:=ae (show xd (l.take j) k++[(0:Int)]=xd (l.take (j+1)) k from jx (l:=l) (j:=j) (k:=k) (b:=false) (j1 HL.o) (by rw[hs]at Ip;exact Ip));clear Ip
     all_goals
      clear hs;go_wp2_with fail;refine N2.o.mono ?_;rintro e w' ⟨rfl,rfl⟩
     ·go_wp2_with (first
       | (at_builtin;refine bv rfl _ _ rfl J.heap.size (.slice a2 K p2) _ rfl (I.o.ext (Ext.alloc _ _)) _ 1 _ [_] rfl (Ints.zp _ _ _ _ e8) (by rw[NX.o];omega) (by simp;omega) ?_;intro v5 w5 ho hg l7;obtain⟨a5,W,U,rfl,zj⟩:=ho.var;have vU:=ae ho;have X5:=ae (ak (E.o.trans (Ext.alloc _ _)) hg (fun j hj=>(I.o.lt j hj).1));clear ho hg l7))
      go_roundg (g2-1)
      case measure=>have:=HJ.o;omega
      case rel=>exact⟨j+1,a5,W,U,ae (j1 HJ.o),by go_num,rfl,ae (by rw[<-Z.o];exact vU.o),X5⟩
     ·go_wp2_with (first
       | (at_builtin;refine bv rfl _ _ rfl J.heap.size (.slice a2 K p2) _ rfl (I.o.ext (Ext.alloc _ _)) _ 1 _ [_] rfl (Ints.zp _ _ _ _ e8) (by rw[NX.o];omega) (by simp;omega) ?_;intro v5 w5 ho hg l7;obtain⟨a5,W,U,rfl,zj⟩:=ho.var;have vU:=ae ho;have X5:=ae (ak (E.o.trans (Ext.alloc _ _)) hg (fun j hj=>(I.o.lt j hj).1));clear ho hg l7))
      go_roundg (g2-1)
      case measure=>have:=HJ.o;omega
      case rel=>exact⟨j+1,a5,W,U,ae (j1 HJ.o),by go_num,rfl,ae (by rw[<-Z.o];exact vU.o),X5⟩
    ·have Cw:j=m:=by have:=HJ.o;omega
     subst Cw;have HT:=ae (show l.take j=l from List.take_of_length_le (by rw[HL.o];exact Nat.le_refl _));rw[HT.o]at I
     go_wp2_with (first
      | (at_builtin;refine eF rfl _ _ rfl w.heap.size (.slice a1 O p1) G rfl ((HV.o.ext E.o).ext (Ext.alloc _ _)) _ _ 1 rfl (by simp;rfl) rfl (j1 EF.o) (by simp;omega) ?_;intro v6 w6 ho hg l7;obtain⟨a6,n6,p6,rfl,Eh⟩:=ho.var;have yT:=ae ho;have Iz:=ae (((HR.o.snoc E.o I.o hsz).ext (Ext.alloc _ _)).CD ((HV.o.ext E.o).ext (Ext.alloc _ _)) hg);have X6:=ae (ak ((HX.o.trans E.o).trans (Ext.alloc _ _)) hg (fun j hj=>(HV.o.lt j hj).1));clear ho hg l7))
     go_roundg (g1-1)
     case measure=>have:=HK.o;omega
     case rel=>exact⟨k+1,a6,n6,p6,_,ae (j1 HK.o),by go_num,rfl,yT,ae (by rw[<-nw];exact Iz.o),X6⟩
  ·have vZ:k=n:=by have:=HK.o;omega
   subst vZ;go_wp2_with fail;go_ret;exact⟨⟨_,rfl,G,HV.o,HR.o⟩,HX.o⟩
end Go.Proofs.YtdadoignenffgaaGreatDoor
