import Derived.Test.YtdadoignenffgaaGreatDoorEbAllG6
import Derived.Test.YtdadoignenffgaaGreatDoorEbAllG3
import Derived.Deep.DeepCutAuto
set_option linter.unusedVariables false
set_option linter.unusedSimpArgs false
namespace Go.Proofs.YtdadoignenffgaaGreatDoor
variable{w:World}{a:j6}{l:j7}
set_option maxHeartbeats 16000000
set_option maxRecDepth 100000
open Go.RowKit
theorem NF{c:Nat}{p r:j7}{j:Nat}(h:j<r.length):(zG c p r).take j++[r[j]?.getD 0*p[c]?.getD 0-r[c]?.getD 0*p[j]?.getD 0]=(zG c p r).take (j+1):=by
 rw[cu (by rw[eK];exact h),iN h]
theorem yI{base:Nat}{N cap n:Nat}{vs0:List Value}{M:j5}(h:Cy w base a N cap vs0 M)(hg:Good n 1 M)(h1:1<=n)(h5:n<=5)(hN:N<=1048576)(hb:base<=w.heap.size):
 Calls Tryz.prog 181 #[.slice a N cap,.int .i64 (n:Int)] w fun e w'=>e=.returned (.int .i64 ((runM zG M n).2:Int))/\Below base w w':=by
 have OK:=h.cap.1;have OL:=h.cap.2;have Mz:=ae h;have HG:=ae hg;have L5:=ae h.len;clear h hg;go_enter Tryz.func181,Tryz.ntmps181
 go_wp2_with fail
 go_loopg [5,6] n (fun gk rk jj wr=>∃(c d:Nat) (vs:List Value) (K:j5),b7 (gk+c=n)/\jj=.int .i64 (c:Int)/\rk=.int .i64 (d:Int)/\b7 (runM zG M c=(K,d))/\b7 (Cy wr base a N cap vs K)/\b7 (Below base w wr))
 case atStart=>exact⟨0,0,vs0,M,ae e7,rfl,rfl,ae rfl,Mz,ae (acb _ _)⟩
 case round =>
  obtain⟨g1,o7⟩:=b9 gk;subst o7;obtain⟨o6,o5⟩:=b9 wr;subst o5;obtain⟨c,d,vs,K,HK,rfl,rfl,HR,HM,HB⟩:=hrel;by_cases hlt:c<n
  ·have zO:=iO ug HG.o c e7;rw[HR.o]at zO;obtain⟨JC,Vd,Qm,Iq⟩:=zO;simp only at JC Vd Qm Iq;have MB:=ae Iq;have Q:=ae (show K.length=N by rw[Vd,L5.o]);rw[L5.o]at Qm;obtain⟨P,hP⟩:=b9 (AH K c d);have HP:=ae hP;have SZ:=vm K c (d:=d) (by rw[Q.o];exact Qm);rw[<-hP,Q.o]at SZ;obtain⟨hdP,hPN⟩:=SZ;have Un:=HB.o.size;clear Vd Iq hP;go_wp2_with fail
   go_loop [7] (fun at7=>∃k:Nat,at7=.int .i64 (k:Int)/\b7 (d<=k)/\b7 (k<=P)) (fun at7=>P-(intOf at7).toNat)
   case atStart=>exact⟨d,rfl,ae (ao _),ae hdP⟩
   case round =>
    obtain⟨k,rfl,HDK,HKP⟩:=hrel;have Er:=HDK.o;have S2:=HKP.o;by_cases hkP:k<P
    ·have K1:k<N:=by omega
     obtain⟨G,rfl,_,_,_⟩:=HM.o.outer e7;obtain⟨g,gc,hvs,hcell,AI,hne,_,_,_,_⟩:=HM.o.row K1 (MB.o k (by rw[Q.o];exact K1)).1 h1;obtain⟨b,off,he,AB⟩:=AI.ints.at hlt;simp only[bA,mq,zz]at he;obtain⟨rfl,rfl⟩:=he;rw[Mf,ym (by rw[Q.o];exact Qm) Er (by rw[<-HP.o];exact hkP)]at AB;clear hvs AI hne;go_wp2_with fail
     go_round
     case rel=>exact⟨k+1,by go_num,ae e7,ae e7⟩
     case measure=>simp[intOf];omega
    ·have hkP':k=P:=by omega
     subst hkP';by_cases K1:k<N
     ·obtain⟨G,rfl,Gf,LH,Gb⟩:=HM.o.outer e7;have OD:=Gb k;have Mn:=Gb d;clear Gb;have DX:=eD (M:=K) (c:=c) (d:=d) (by rw[<-HP.o,Q.o];exact K1);rw[<-HP.o]at DX;obtain⟨gp,cp,Z,OH,O,S0,Zc,hgpl,hncp,hcpm⟩:=HM.o.row K1 (MB.o k (by rw[Q.o];exact K1)).1 h1;obtain⟨gd,cd,Qh,RP,hod,hnd,Iv,hgdl,Yz,hcdm⟩:=HM.o.row (show d<N by omega) (MB.o d (by rw[Q.o];omega)).1 h1;obtain⟨b,off,he,AB⟩:=O.ints.at hlt;simp only[bA,mq,zz]at he;obtain⟨rfl,rfl⟩:=he;rw[Mf]at AB;obtain⟨U,Rw⟩:=b9 ((K[k]?.getD [])[c]?.getD 0);rw[<-Rw]at AB DX;have Ko:U≠0:=DX.2.1;have hpcb:(U == 0)=false:=by simpa using Ko
      have FM:=HM.o.swap K1 (show d<N by omega);rw[Z,Qh]at FM;obtain⟨M1,LG⟩:=b9 (swp K k d);obtain⟨vs1,Jo⟩:=b9 (Kb vs k d);have HVP:=ae (show vs1[d]?.getD undef=.slice (some ⟨gp,0,none⟩) n cp by rw[Jo,jT (by rw[HM.o.BW];exact K1) (by rw[HM.o.BW];omega),hI rfl,Z]);have JQ:=ae (show Good n (J3 d) M1 by rw[LG];exact iV MB.o (by rw[Q.o];exact K1) (by rw[Q.o];omega));have FG:=ae (show M1.length=N by rw[LG,dh,Q.o])
      have Gr:=ae (show runM zG M (c+1)=(Bt zG c M1 d N,d+1)by
       show Co zG c (runM zG M c)=_;rw[HR.o];unfold Co;simp only
       rw[<-HP.o,Q.o,hI K1,LG,MR K (a:=k) (b:=d) (by rw[Q.o];exact K1) (by rw[Q.o];omega)])
      rw[<-LG,<-Jo]at FM;have CR:=ae FM;have Cb:d<N:=by omega
      have Ck:=ae ((HB.o.setCell (p:=⟨G,k,none⟩) Gf (.slice (some ⟨gd,0,none⟩) n cd)).setCell (p:=⟨G,d,none⟩) Gf (.slice (some ⟨gp,0,none⟩) n cp));clear FM DX O hod Rw Z Qh LG Jo;by_cases Ax:d=k
      case' pos =>
       subst Ax;have Be:=OH.symm.trans RP;simp only[bA,C',mq,zz,acq]at Be;obtain⟨rfl,rfl⟩:=Be;clear RP
      case' neg=>have hkd':¬k=d:=fun e=>Ax e.symm
      all_goals
       go_wp2_with fail;clear OH
       try clear RP
       have aaK:=ae Gf
       go_loopg [9] (N-(d+1)) (fun g3 i I=>∃(t:Nat) (vs3:List Value),b7 (g3+t=N)/\i=.int .i64 (t:Int)/\b7 (d<t)/\b7 (Cy I base (some ⟨G,0,none⟩) N cap vs3 (Bt zG c M1 d t))/\b7 (Below base w I)/\b7 (vs3[d]?.getD undef=.slice (some ⟨gp,0,none⟩) n cp))
       case atStart=>exact⟨d+1,vs1,ae e7,by go_num,ae e7,ae (by rw[oU];exact CR.o),Ck,HVP⟩
       case round =>
        obtain⟨g3,D8⟩:=b9 gk;subst D8;obtain⟨I,B4⟩:=b9 wr;subst B4;obtain⟨t,vs3,HT,rfl,Sx,Fm,A6,HV3⟩:=hrel;by_cases Um:t<N
        ·have hdt:=Sx.o;have HGR:=ae (show Good n (J3 (d+1)) (Bt zG c M1 d t)from mY JQ.o (gw d e7).2.2 (by rw[FG.o];exact Cb) fun p r En Gz h5 h6=>ug _ n c p r (gw d e7).1 En Gz h5 h6);have Br:=ae (show(Bt zG c M1 d t).length=N by rw[dN,FG.o]);obtain⟨G',CD,_,hGl3,Gb⟩:=Fm.o.outer e7;simp only[bA,mq,zz]at CD;subst CD;have hft:=Gb t;clear Gb;obtain⟨gt,ct,Km,hct,GB,hnt,_,_,hnct,hctm⟩:=Fm.o.row Um (HGR.o t (by rw[Br.o];exact Um)).1 h1;obtain⟨gp',cp',Z,hcp3,O,hnp3,_,_,_,_⟩:=Fm.o.row Cb (HGR.o d (by rw[Br.o];exact Cb)).1 h1;have Be:=HV3.o.symm.trans Z;simp only[C',bA,mq,zz,acq]at Be;obtain⟨rfl,rfl⟩:=Be;rw[gV _ _ _ _ _ _ (by rw[FG.o];exact Um) e7]at GB;rw[gV _ _ _ _ _ _ (by rw[FG.o];exact Cb) e7]at O;obtain⟨r,hr⟩:=b9 (M1[t]?.getD []);obtain⟨p,hp⟩:=b9 (M1[d]?.getD []);rw[<-hr]at GB;rw[<-hp]at O;have DB:=ae (JQ.o t (by rw[FG.o];exact Um));have IT:=ae (JQ.o d (by rw[FG.o];exact Cb));rw[<-hr]at DB;rw[<-hp]at IT;have HOT:=ae GB;have Hn:=ae O;have C0:=ae hr;have PM:=ae hp;obtain⟨b,off,he,AB⟩:=GB.ints.at hlt;simp only[bA,mq,zz]at he;obtain⟨rfl,rfl⟩:=he
         rw[Mf]at AB;obtain⟨b,off,he,Ko⟩:=O.ints.at hlt;simp only[bA,mq,zz]at he;obtain⟨rfl,rfl⟩:=he;rw[Mf]at Ko;obtain⟨rc,Io⟩:=b9 (r[c]?.getD 0);obtain⟨U,Rw⟩:=b9 (p[c]?.getD 0);rw[<-Io]at AB;rw[<-Rw]at Ko;have JL:=ae Io;have II:=ae Rw;have HO:=ae (o4.Az I I.heap.size _ rfl (ao _));clear Km Z GB O hr hp Io Rw;go_wp2_with fail
         go_loopg [11,12] n (fun g4 nx kk J=>∃(j:Nat) (a1:j6) (n1 p1:Nat),b7 (g4+j=n)/\kk=.int .i64 (j:Int)/\nx=.slice a1 n1 p1/\b7 (o4 J I.heap.size (.slice a1 n1 p1) ((zG c p r).take j))/\b7 (Ext I J))
         case atStart=>exact⟨0,_,_,_,ae e7,rfl,rfl,HO,ae (Ext.alloc _ _)⟩
         case round =>
          obtain⟨g4,OV⟩:=b9 gk;subst OV;obtain⟨J,JG⟩:=b9 wr;subst JG;obtain⟨j,a1,n1,p1,HJ,rfl,rfl,Ar,Bk⟩:=hrel;have Us:=Bk.o.size;by_cases Eo:j<n
          ·obtain⟨b,off,he,Wn⟩:=HOT.o.ints.at Eo;simp only[bA,mq,zz]at he;obtain⟨rfl,rfl⟩:=he;rw[Mf]at Wn;obtain⟨b,off,he,Wr⟩:=Hn.o.ints.at Eo;simp only[bA,mq,zz]at he;obtain⟨rfl,rfl⟩:=he;rw[Mf]at Wr;obtain⟨rj,Uu⟩:=b9 (r[j]?.getD 0);obtain⟨pj,D5⟩:=b9 (p[j]?.getD 0);rw[<-Uu]at Wn;rw[<-D5]at Wr;have Bg:=gw d e7;have AS:=gT (B:=32768) (x:=rj) (y:=U) (j1 (DB.o.2 j)) (j1 (DB.o.2 j)) (by have:=IT.o.2 c;have:=II.o;omega) (by have:=IT.o.2 c;have:=II.o;omega);have AD:=gT (B:=32768) (x:=pj) (y:=rc) (j1 (IT.o.2 j)) (j1 (IT.o.2 j)) (by have:=DB.o.2 c;have:=JL.o;omega) (by have:=DB.o.2 c;have:=JL.o;omega);have GX:IntKind.i64.wrap (rj*U)=rj*U:=by rw[cn];omega
           have Ch:IntKind.i64.wrap (pj*rc)=pj*rc:=by rw[cn];omega
           have Gx:IntKind.i64.wrap (rj*U-pj*rc)=rj*U-pj*rc:=by rw[cn];omega
           have HV:=ae (show rj*U-pj*rc=r[j]?.getD 0*p[c]?.getD 0-r[c]?.getD 0*p[j]?.getD 0 by rw[<-Uu,<-D5,<-II.o,<-JL.o,acx pj rc]);have Sn:=ae (show((zG c p r).take j).length=j by rw[FX,eK,DB.o.1];omega);clear Uu D5 AS AD Bg;have k7:Ext I J.drew:=Bk.o.trans (Ext.drew J);have RD:Ext I (J.alloc (.cells #[.int .i64 (rj*U-pj*rc)] 3)).drew:=(Bk.o.trans (Ext.alloc _ _)).trans (Ext.drew _);have k8:=ae (fun(w':World) (h:Ext I w')=>(⟨h.j9 hct,h.j9 Wn,h.j9 Ko,h.j9 Wr,h⟩:w'.cell? ⟨G,t,none⟩=some (.slice (some ⟨gt,0,none⟩) n ct)/\w'.cell? ⟨gt,j,none⟩=some (.int .i64 rj)/\w'.cell? ⟨gp,c,none⟩=some (.int .i64 U)/\w'.cell? ⟨gp,j,none⟩=some (.int .i64 pj)/\Ext I w'));go_wp2_with fail
           go_region_held3 (fun w'=>w'.cell? ⟨G,t,none⟩=some (.slice (some ⟨gt,0,none⟩) n ct)/\w'.cell? ⟨gt,j,none⟩=some (.int .i64 rj)/\w'.cell? ⟨gp,c,none⟩=some (.int .i64 U)/\w'.cell? ⟨gp,j,none⟩=some (.int .i64 pj)/\Ext I w')
            (first
              | with_reducible exact k8.o _ k7
              | with_reducible exact k8.o _ RD)
            (first
              | (refine bI _ j0 ?_
                 refine bF _ _ j0 I.heap.size (.slice a1 n1 p1) _ j0 ((Ar.o.ext (Ext.alloc J _)).ext (Ext.drew _)) _ 1 _ [rj*U-pj*rc] j0 ((Ints.CL J _ _ _ rfl).ext (Ext.drew _)) (by rw[Sn.o];omega) (by simp;omega) ?_;intro v5 w5 ho hg k9;obtain⟨a5,n5,p5,rfl,CF⟩:=ho.var;have zW:=ae ho;have k7:Ext I w5:=ak RD hg (fun j hj=>(Ar.o.lt j hj).1)
                 clear ho hg k9)
              | fail)
           have HK5:=ae k7;clear k7 k8;go_wp2_with fail
           go_roundg (g4-1)
           case measure=>have:=HJ.o;omega
           case rel=>exact⟨j+1,a5,n5,p5,ae (j1 HJ.o),by go_num,rfl,ae (by rw[<-NF (by rw[DB.o.1];exact Eo),<-HV.o];exact zW.o),HK5⟩
          ·have JA:j=n:=by have:=HJ.o;omega
           subst JA;have HPUT:=ae (Fm.o.put Bk.o (SC hb A6.o.size) Ar.o Um);have WU:=ae (show(vs3.set t (.slice a1 n1 p1))[d]?.getD undef=.slice (some ⟨gp,0,none⟩) j cp by rw[DZ e7];exact HV3.o)
           have HMX:=ae (show(Bt zG c M1 d t).set t ((zG c p r).take j)=Bt zG c M1 d (t+1)by
            rw[p4 (by rw[eK,DB.o.1];exact ao _),C0.o,PM.o]
            exact lw _ _ _ _ _ hdt (by rw[FG.o];exact Um))
           have Je:=ae ((A6.o.trans (Below.mono Bk.o (SC hb A6.o.size))).setCell (p:=⟨G,t,none⟩) aaK.o (.slice a1 n1 p1));have hct4:=Bk.o.j9 hct;have hft4:J.frozen? ⟨G,t,none⟩=false:=(Bk.o.zq _ _ hGl3).trans hft;go_wp2_with fail
           go_roundg (g3-1)
           case measure=>have:=HT.o;omega
           case rel=>exact⟨t+1,_,ae (j1 HT.o),by go_num,ae e7,ae (by rw[<-HMX.o];exact HPUT.o),Je,WU⟩
        ·have N':t=N:=by have:=HT.o;omega
         subst N';go_wp2_with fail
         go_roundg (g1-1)
         case measure=>have:=HK.o;omega
         case rel=>exact⟨c+1,d+1,vs3,_,ae (j1 HK.o),by go_num,by go_num,Gr,Fm,A6⟩
     ·have Gr:=ae (show runM zG M (c+1)=(K,d)by
       show Co zG c (runM zG M c)=_;rw[HR.o];unfold Co;simp only
       rw[<-HP.o,Q.o,hD K1])
      have hkN':k=N:=by omega
      subst hkN';go_wp2_with fail
      go_roundg (g1-1)
      case measure=>have:=HK.o;omega
      case rel=>exact⟨c+1,d,vs,K,ae (j1 HK.o),by go_num,rfl,Gr,HM,HB⟩
  ·have It:c=n:=by have:=HK.o;omega
   subst It;go_wp2_with fail;go_ret;exact⟨ap (by rw[HR.o]),HB.o⟩
theorem zC.Az(w:World)(base n:Nat)(hn:n=w.heap.size)(hb:base<=w.heap.size):zC (w.alloc (.cells #[] 30)) base (.slice (some ⟨n,0,none⟩) 0 0) []:=by
 subst hn;exact aaY w #[] 0 hb e7 rfl
theorem Nb{n:Int}{m cap:Nat}(h:Ints w a m cap l)(hl:∀k:Nat,l[k]?.getD 0<=9223372036854775807)(hm:m<=1048576):
 Calls Tryz.prog 114 #[.int .i64 n,.slice a m cap] w fun e w'=>e=.returned (.int .i64 (iF n l))/\Ext w w':=by
 have OK:=h.l8;have OL:=h.l9;have HL:=ae h.hlen;have HI:=ae h;have AO:=ae hl;clear h hl;cases zU:r9 n 1 5
 ·have HN:=ae (show iF n l=0 by unfold iF;rw[zU];rfl);have HW:=ae (aZ n 1 5 w);rw[zU]at HW;clear zU;go_enter Tryz.func114,Tryz.ntmps114
  go_wp2_with fail;refine HW.o.mono ?_;rintro e w1 ⟨rfl,rfl⟩;go_wp2_with fail;go_ret;exact⟨ap HN.o.symm,Ext.refl _⟩
 ·obtain⟨G,rfl⟩:∃k:Nat,n=k:=⟨n.toNat,by simp only[r9,xf,sw]at zU;omega⟩;have h15:1<=G/\G<=5:=by simp only[r9,xf,sw]at zU;omega
  obtain⟨h1,h5⟩:=h15;have HN:=ae (show iF (G:Int) l=((runM zG (l.map (BN G)) G).2:Int)by unfold iF;rw[hI zU];rfl);have HW:=ae (aZ G 1 5 w);rw[zU]at HW;have HO:=ae (zC.Az w w.heap.size _ rfl (ao _));clear zU;go_enter Tryz.func114,Tryz.ntmps114
  go_wp2_with fail;refine HW.o.mono ?_;rintro e w1 ⟨rfl,rfl⟩;go_wp2_with fail
  go_loopg [5,6] m (fun gk out i wr=>∃(k:Nat) (a1:j6) (O p1:Nat) (J:List Value),b7 (gk+k=m)/\i=.int .i64 (k:Int)/\out=.slice a1 O p1/\b7 (zC wr w.heap.size (.slice a1 O p1) J)/\b7 (bL wr w.heap.size J ((l.take k).map (BN G)))/\b7 (Ext w wr))
  case atStart=>exact⟨0,_,_,_,[],ae e7,rfl,rfl,HO,ae (bL.nil _ _),ae (Ext.alloc _ _)⟩
  case round =>
   obtain⟨g1,o7⟩:=b9 gk;subst o7;obtain⟨K,o5⟩:=b9 wr;subst o5;obtain⟨k,a1,O,p1,J,HK,rfl,rfl,HV,HR,HX⟩:=hrel;have Q:=HX.o.size;by_cases hlt:k<m
   ·obtain⟨b,off,ha,DR⟩:=(HI.o.ext HX.o).at hlt;subst ha;obtain⟨s,hs⟩:=b9 (l[k]?.getD 0);rw[<-hs]at DR;have HS:=ae hs;have Ec:s<=9223372036854775807:=by rw[hs];exact AO.o k
    have As:=ae (o4.Az K K.heap.size _ rfl (ao _));have I9:=ae (show J.length=k by rw[HR.o.len,zo,FX];have:=HL.o;omega);clear hs;go_wp2_with fail
    go_loopg [7,8] G (fun gk row i wr=>∃(j:Nat) (a2:j6) (U p2:Nat),b7 (gk+j=G)/\i=.int .i64 (j:Int)/\row=.slice a2 U p2/\b7 (o4 wr K.heap.size (.slice a2 U p2) (BN j s))/\b7 (Ext K wr))
    case atStart=>exact⟨0,_,_,_,ae e7,rfl,rfl,As,ae (Ext.alloc _ _)⟩
    case round =>
     obtain⟨g2,Am⟩:=b9 gk;subst Am;obtain⟨wr2,zx⟩:=b9 wr;subst zx;obtain⟨j,a2,U,p2,HJ,rfl,rfl,Z,I⟩:=hrel;have Fs:=I.o.size;by_cases Eo:j<G
     ·have F6:=I.o.j9 DR;have Sn:=ae (ke j s)
      go_wp2_with (first
       | (go_at_call 40;refine(cw s (j:Int) _ Ec).mono ?_;rintro e w' ⟨rfl,rfl⟩)
       | (go_at_call 104;refine(fk (BC s (j:Int)) _).mono ?_;rintro e w' ⟨rfl,rfl⟩)
       | (at_builtin;refine bu rfl _ _ rfl K.heap.size (.slice a2 U p2) _ rfl (Z.o.ext (Ext.alloc _ _)) _ 1 _ [zA (BC s (j:Int))] rfl (Ints.CL _ _ _ _ e8) (by rw[Sn.o];omega) (by simp;omega) ?_;intro v5 w5 ho hg k9;obtain⟨a5,n5,p5,rfl,CF⟩:=ho.var;have zW:=ae ho;have X5:=ae (ak (I.o.trans (Ext.alloc _ _)) hg (fun j hj=>(Z.o.lt j hj).1));clear ho hg k9))
      go_roundg (g2-1)
      case measure=>have:=HJ.o;omega
      case rel=>exact⟨j+1,a5,n5,p5,ae (j1 HJ.o),by go_num,rfl,ae (by rw[<-ql];exact zW.o),X5⟩
     ·have JA:j=G:=by have:=HJ.o;omega
      subst JA
      go_wp2_with (first
       | (at_builtin;refine fu rfl _ _ rfl w.heap.size (.slice a1 O p1) J rfl ((HV.o.ext I.o).ext (Ext.alloc _ _)) _ _ 1 rfl (by simp;rfl) rfl (j1 I9.o) (by simp;omega) ?_;intro v6 w6 ho hg k9;obtain⟨a6,n6,p6,rfl,H'⟩:=ho.var;have Cf:=ae ho;have Mx:=ae (((HR.o.snoc I.o Z.o Q).ext (Ext.alloc _ _)).Gi ((HV.o.ext I.o).ext (Ext.alloc _ _)) hg);have X6:=ae (ak ((HX.o.trans I.o).trans (Ext.alloc _ _)) hg (fun j hj=>(HV.o.lt j hj).1));clear ho hg k9))
      go_roundg (g1-1)
      case measure=>have:=HK.o;omega
      case rel=>exact⟨k+1,a6,n6,p6,_,ae (j1 HK.o),by go_num,rfl,Cf,ae (by rw[cu (j1 HL.o),We,<-HS.o];exact Mx.o),X6⟩
   ·have Cr:k=m:=by have:=HK.o;omega
    subst Cr;have HT:=ae (show l.take k=l from p4 (by rw[HL.o];exact ao _));have PR:=ae (show O=k by rw[<-HV.o.len,HR.o.len,HT.o,zo,HL.o]);have HM:=ae (show Cy K w.heap.size a1 O p1 J (l.map (BN G))from⟨HV.o,by have:=HR.o;rw[HT.o]at this;exact this⟩);have HC:=ae (yI HM.o (kg G l) h1 h5 (by rw[PR.o];exact hm) Q);go_wp2_with fail;refine HC.o.mono ?_;rintro e w2 ⟨rfl,hb⟩;have HB:=ae (HX.o.Jf hb);clear hb;go_wp2_with fail;go_ret;exact⟨ap HN.o.symm,HB.o⟩
theorem yR(k:Int)(m:Nat):BY k m++[k+(m:Int)]=BY k (m+1):=by simp[BY,TP]
theorem ln(lo hi:Int)(n:Nat)(h0:0<=lo)(h1:lo<=1000)(hn:hi+1-lo=n)(hb:n<=1000):
 Calls Tryz.prog 125 #[.int .i64 lo,.int .i64 hi] w fun e w'=>(∃v,e=.returned v/\o4 w' w.heap.size v (BY lo n))/\Ext w w':=by
 have HN:=ae hn;have G:hi=lo+(n:Int)-1:=by omega
 have hh1:-1<=hi:=by omega
 have hh2:hi<=2000:=by omega
 have HH:=ae G;have HO:=ae (o4.Az w w.heap.size _ rfl (ao _));clear hn G;go_enter Tryz.func125,Tryz.ntmps125
 go_wp2_with fail
 go_loopg [5,6] n (fun gk oo ii wr=>∃(k:Nat) (i:Int) (a1:j6) (J p1:Nat),b7 (gk+k=n)/\b7 (i=lo+(k:Int))/\ii=.int .i64 i/\oo=.slice a1 J p1/\b7 (o4 wr w.heap.size (.slice a1 J p1) (BY lo k))/\b7 (Ext w wr))
 case atStart=>exact⟨0,lo,_,_,_,ae e7,ae e7,rfl,rfl,HO,ae (Ext.alloc _ _)⟩
 case round =>
  obtain⟨g1,Q⟩:=b9 gk;subst Q;obtain⟨o6,U⟩:=b9 wr;subst U;obtain⟨k,i,a1,J,p1,I,HI,rfl,rfl,zv,HX⟩:=hrel;have hsz:=HX.o.size;have YT:0<=i:=by have:=HI.o;omega
  have hi1:i<=2001:=by have:=HI.o;have:=I.o;omega
  by_cases hlt:k<n
  ·have hle:i<=hi:=by have:=HI.o;have:=HH.o;omega
   have HL:=ae (tQ lo k)
   go_wp2_with (first
    | (at_builtin;refine bu rfl _ _ rfl w.heap.size (.slice a1 J p1) _ rfl (zv.o.ext (Ext.alloc _ _)) _ 1 _ [i] rfl (Ints.CL _ _ _ _ e8) (by rw[HL.o];have:=I.o;omega) (by simp;omega) ?_;intro v5 w5 ho hg k9;obtain⟨a5,Z,O,rfl,CF⟩:=ho.var;have zW:=ae ho;have X5:=ae (ak (HX.o.trans (Ext.alloc _ _)) hg (fun j hj=>(zv.o.lt j hj).1));clear ho hg k9))
   go_roundg (g1-1)
   case measure=>have:=I.o;omega
   case rel=>exact⟨k+1,i+1,a5,Z,O,ae (j1 I.o),ae (j1 HI.o),rfl,rfl,ae (by have:=zW.o;rw[HI.o,yR]at this;exact this),X5⟩
  ·have K:k=n:=by have:=I.o;omega
   have hnle:¬i<=hi:=by have:=HI.o;have:=HH.o;omega
   subst K;go_wp2_with fail;go_ret;exact⟨⟨_,rfl,zv.o⟩,HX.o⟩
theorem Ng(n:Nat)(x:Int){k:Nat}(h:k<n):(List.replicate k x++List.replicate (n-k) 0).set k x=List.replicate (k+1) x++List.replicate (n-(k+1)) 0:=by
 rw[abF _ _ e8];simp only[O5,ab2];obtain⟨d,hd⟩:∃d,n-k=d+1:=⟨n-k-1,by omega⟩;rw[hd,List.replicate_succ,abZ,show n-(k+1)=d by omega,aaA,N7]
 rfl
theorem lQ(n:Nat)(x:Int)(hb:n<=8000000):
 Calls Tryz.prog 126 #[.int .i64 (n:Int),.int .i64 x] w fun e w'=>(∃v,e=.returned v/\o4 w' w.heap.size v (List.replicate n x))/\Ext w w':=by
 have Ly:=gh n e7;have HR:=ae (show Row (w.alloc (.cells (be (List.replicate n 0)) 3)) w.heap.size 3 (List.replicate n 0)from L' _ _);go_enter Tryz.func126,Tryz.ntmps126
 go_wp2_with fail
 go_loopg [11] n (fun gk ii wr=>∃k:Nat,b7 (gk+k=n)/\ii=.int .i64 (k:Int)/\b7 (Row wr w.heap.size 3 (List.replicate k x++List.replicate (n-k) 0))/\b7 (Ext w wr))
 case atStart=>exact⟨0,ae e7,rfl,ae (by simpa using HR.o),ae (Ext.alloc _ _)⟩
 case round =>
  obtain⟨g1,U⟩:=b9 gk;subst U;obtain⟨K,Z⟩:=b9 wr;subst Z;obtain⟨k,J,rfl,G,HX⟩:=hrel;by_cases hlt:k<n
  ·have hc:=G.o.cell (k:=k) (by simp;omega);have hf:=G.o.free k;have HN:=ae (show Row (K.setCell ⟨w.heap.size,k,none⟩ (.int .i64 x)) w.heap.size 3 (List.replicate (k+1) x++List.replicate (n-(k+1)) 0)by rw[<-Ng n x hlt];exact G.o.set k x);have O:=ae (HX.o.setCell (p:=⟨w.heap.size,k,none⟩) (ao _) (.int .i64 x));go_wp2_with fail
   go_roundg (g1-1)
   case measure=>have:=J.o;omega
   case rel=>exact⟨k+1,ae (j1 J.o),by go_num,HN,O⟩
  ·have Q:k=n:=by have:=J.o;omega
   subst Q;have I:=ae (show Row K w.heap.size 3 (List.replicate k x)by have:=G.o;simpa using this);go_wp2_with fail;go_ret;exact⟨⟨_,rfl,I.o.own (ao _) e8 e7⟩,HX.o⟩
def AQ(l:j7)(k:Nat):j7:=l.map fun s=>zA (BC s (k:Int))
def A9(n:Nat)(l:j7):j5:=(List.range n).map (AQ l)
theorem qF(k:Nat)(l:j7):A9 k l++[AQ l k]=A9 (k+1) l:=by simp[A9,TP]
theorem lv{j k:Nat}{b:Bool}(h:j<l.length)(hb:BC (l[j]?.getD 0) (k:Int)=b):AQ (l.take j) k++[zA b]=AQ (l.take (j+1)) k:=by
 rw[cu h,<-hb];simp[AQ]
theorem qx(n:Nat)(hn:n<=5){m cap:Nat}(h:Ints w a m cap l)(hl:∀k:Nat,l[k]?.getD 0<=9223372036854775807)(hm:m<=8000000):
 Calls Tryz.prog 124 #[.int .i64 (n:Int),.slice a m cap] w fun e w'=>(∃v,e=.returned v/\dt w' w.heap.size v (A9 n l))/\Ext w w':=by
 have OK:=h.l8;have OL:=h.l9;have HL:=ae h.hlen;have HI:=ae h;have AO:=ae hl;have HO:=ae (zC.Az w w.heap.size _ rfl (ao _));clear h hl;go_enter Tryz.func124,Tryz.ntmps124
 go_wp2_with fail
 go_loopg [5,13] n (fun gk out ii wr=>∃(k:Nat) (a1:j6) (Q p1:Nat) (J:List Value),b7 (gk+k=n)/\ii=.int .i64 (k:Int)/\out=.slice a1 Q p1/\b7 (zC wr w.heap.size (.slice a1 Q p1) J)/\b7 (bL wr w.heap.size J (A9 k l))/\b7 (Ext w wr))
 case atStart=>exact⟨0,_,_,_,[],ae e7,rfl,rfl,HO,ae (bL.nil _ _),ae (Ext.alloc _ _)⟩
 case round =>
  obtain⟨g1,o7⟩:=b9 gk;subst o7;obtain⟨K,o5⟩:=b9 wr;subst o5;obtain⟨k,a1,Q,p1,J,HK,rfl,rfl,HV,HR,HX⟩:=hrel;have hsz:=HX.o.size;by_cases hlt:k<n
  ·have As:=ae (o4.Az K K.heap.size _ rfl (ao _));have I9:=ae (show J.length=k by rw[HR.o.len];simp[A9]);go_wp2_with fail
   go_loopg [7,19] m (fun gk row ii wr=>∃(j:Nat) (a2:j6) (O p2:Nat),b7 (gk+j=m)/\ii=.int .i64 (j:Int)/\row=.slice a2 O p2/\b7 (o4 wr K.heap.size (.slice a2 O p2) (AQ (l.take j) k))/\b7 (Ext K wr))
   case atStart=>exact⟨0,_,_,_,ae e7,rfl,rfl,As,ae (Ext.alloc _ _)⟩
   case round =>
    obtain⟨g2,Am⟩:=b9 gk;subst Am;obtain⟨U,zx⟩:=b9 wr;subst zx;obtain⟨j,a2,O,p2,HJ,rfl,rfl,I,G⟩:=hrel;have Fs:=G.o.size;by_cases Eo:j<m
    ·obtain⟨b,off,ha,DR⟩:=(HI.o.ext (HX.o.trans G.o)).at Eo;subst ha;obtain⟨s,hs⟩:=b9 (l[j]?.getD 0);rw[<-hs]at DR;have Ec:s<=9223372036854775807:=by rw[hs];exact AO.o j
     have Sn:=ae (show(AQ (l.take j) k).length=j by simp[AQ];have:=HL.o;omega);have Sr:=ae (fP s (k:Int) U Ec);cases Mm:BC s (k:Int)
     case' true =>
      rw[Mm]at Sr;have Xh:=ae (show AQ (l.take j) k++[(1:Int)]=AQ (l.take (j+1)) k from lv (l:=l) (j:=j) (k:=k) (b:=true) (j1 HL.o) (by rw[hs]at Mm;exact Mm));clear Mm
     case' false =>
      rw[Mm]at Sr;have Xh:=ae (show AQ (l.take j) k++[(0:Int)]=AQ (l.take (j+1)) k from lv (l:=l) (j:=j) (k:=k) (b:=false) (j1 HL.o) (by rw[hs]at Mm;exact Mm));clear Mm
     all_goals
      clear hs;go_wp2_with fail;refine Sr.o.mono ?_;rintro e w' ⟨rfl,rfl⟩
     ·go_wp2_with (first
       | (at_builtin;refine bu rfl _ _ rfl K.heap.size (.slice a2 O p2) _ rfl (I.o.ext (Ext.alloc _ _)) _ 1 _ [_] rfl (Ints.CL _ _ _ _ e8) (by rw[Sn.o];omega) (by simp;omega) ?_;intro v5 w5 ho hg k9;obtain⟨a5,n5,Z,rfl,CF⟩:=ho.var;have zW:=ae ho;have X5:=ae (ak (G.o.trans (Ext.alloc _ _)) hg (fun j hj=>(I.o.lt j hj).1));clear ho hg k9))
      go_roundg (g2-1)
      case measure=>have:=HJ.o;omega
      case rel=>exact⟨j+1,a5,n5,Z,ae (j1 HJ.o),by go_num,rfl,ae (by rw[<-Xh.o];exact zW.o),X5⟩
     ·go_wp2_with (first
       | (at_builtin;refine bu rfl _ _ rfl K.heap.size (.slice a2 O p2) _ rfl (I.o.ext (Ext.alloc _ _)) _ 1 _ [_] rfl (Ints.CL _ _ _ _ e8) (by rw[Sn.o];omega) (by simp;omega) ?_;intro v5 w5 ho hg k9;obtain⟨a5,n5,Z,rfl,CF⟩:=ho.var;have zW:=ae ho;have X5:=ae (ak (G.o.trans (Ext.alloc _ _)) hg (fun j hj=>(I.o.lt j hj).1));clear ho hg k9))
      go_roundg (g2-1)
      case measure=>have:=HJ.o;omega
      case rel=>exact⟨j+1,a5,n5,Z,ae (j1 HJ.o),by go_num,rfl,ae (by rw[<-Xh.o];exact zW.o),X5⟩
    ·have Ga:j=m:=by have:=HJ.o;omega
     subst Ga;have HT:=ae (show l.take j=l from p4 (by rw[HL.o];exact ao _));rw[HT.o]at I
     go_wp2_with (first
      | (at_builtin;refine fu rfl _ _ rfl w.heap.size (.slice a1 Q p1) J rfl ((HV.o.ext G.o).ext (Ext.alloc _ _)) _ _ 1 rfl (by simp;rfl) rfl (j1 I9.o) (by simp;omega) ?_;intro v6 w6 ho hg k9;obtain⟨a6,n6,p6,rfl,H'⟩:=ho.var;have Cf:=ae ho;have Mx:=ae (((HR.o.snoc G.o I.o hsz).ext (Ext.alloc _ _)).Gi ((HV.o.ext G.o).ext (Ext.alloc _ _)) hg);have X6:=ae (ak ((HX.o.trans G.o).trans (Ext.alloc _ _)) hg (fun j hj=>(HV.o.lt j hj).1));clear ho hg k9))
     go_roundg (g1-1)
     case measure=>have:=HK.o;omega
     case rel=>exact⟨k+1,a6,n6,p6,_,ae (j1 HK.o),by go_num,rfl,Cf,ae (by rw[<-qF];exact Mx.o),X6⟩
  ·have zQ:k=n:=by have:=HK.o;omega
   subst zQ;go_wp2_with fail;go_ret;exact⟨⟨_,rfl,J,HV.o,HR.o⟩,HX.o⟩
