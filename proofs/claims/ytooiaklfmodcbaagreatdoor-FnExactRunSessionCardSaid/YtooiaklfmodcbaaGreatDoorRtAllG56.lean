import Derived.Test.YtooiaklfmodcbaaGreatDoorRtAllG16
set_option linter.all false
set_option maxHeartbeats 6000000
set_option maxRecDepth 100000
namespace Go.Proofs.YtooiaklfmodcbaaGreatDoor
open Ending renaming returned->ar
open List renaming length->JL
open Obj renaming cells->QD
open Value renaming slice->GI,bool->bl,string->aE,pointer->aP
open Go.Proofs.Tryz Go.RowKit
variable{σ:Prop}
section
def N3(h:σ:=by simp;rfl):σ:=h
def xf(h:σ:=by rw[Me.o];exact Hu):σ:=h
def P1(h:σ:=by have:=PY.2 c;have:=Pp.o;omega):σ:=h
def QJ(h:σ:=by have:=Jv.2 c;have:=QL.o;omega):σ:=h
def OV(h:σ:=by rw[HLJ.o];omega):σ:=h
def RP(h:σ:=by simp[results,results310,go_sem]):σ:=h
def Sz(h:σ:=by rw[Jv.1];exact Ii):σ:=h
def p8(h:σ:=by rw[FP.o];exact YV):σ:=h
def Qg(h:σ:=by rw[FP.o];exact SD):σ:=h
def Tq(h:σ:=by rw[cW (k8 HL.o),sr,<-HS.o];exact Po):σ:=h
def S3(h:σ:=by rw[FP.o];omega):σ:=h
def vE{P Q:Prop}(q:Q)(h:Q->P:=by intro q;go_roundg (gk-1);exact q;have:=HJ.o;omega):P:=h q
variable{w:J}{a:l9}{l:o3}
theorem Vy{c:Nat}{p r:o3}{j:Nat}(h:j<JL r):(Ed c p r).take j++[r[j]?.getD 0*p[c]?.getD 0-r[c]?.getD 0*p[j]?.getD 0]=(Ed c p r).take (j+1):=by
 rw[cW (by rw[fC];exact h),ki h]
def O0(h:σ:=by
 exact⟨0,_,_,_,I j0,rfl,rfl,HO1,I WU⟩
 ):σ:=h
def cS(h:σ:=by
 have:=HK.o;omega
 ):σ:=h
def Ki(h:σ:=by
 go_wp2_with fail;refine qq0 ?_;exact⟨c+1,d+1,vs1,_,I (k8 HK3.o),by go_num,by go_num,N6,Lc,Gm⟩
 ):σ:=h
theorem Dr{base:Nat}{N cap n:Nat}{vs0:List arQ}{M:l8}(h:Io w base a N cap vs0 M)(hg:p7 n 1 M)(h1:1<=n)(h5:n<=5)(hN:N<=1048576)(hb:base<=w.heap.size):
 Calls prog 259 #[GI a N cap,.int .i64 (n:Int)] w λe w'=>e=ar (.int .i64 ((RK Ed M n).2:Int))/\Below base w w':=by
 have WM:=h.cap.1;have WN:=h.cap.2;refine t8 h hg h.len λUk HG Oa=>?_;clear h hg;go_in
 go_wp2
 go_loopg [5,6] n (λgk rk jj wr=>∃(c d:Nat) (vs:List arQ) (K:l8),b9 (gk+c=n)/\jj=.int .i64 (c:Int)/\rk=.int .i64 (d:Int)/\b9 (RK Ed M c=(K,d))/\b9 (Io wr base a N cap vs K)/\b9 (Below base w wr))
 ·exact⟨0,0,vs0,M,I j0,rfl,rfl,I rfl,Uk,I (bz _ _)⟩
 rename Nat=>g1;rename J=>y9;obtain⟨c,d,vs,K,HK3,rfl,rfl,HR,HM,HB⟩:=hrel;by_cases hlt:c<n
 ·have DL:=kl ys HG.o c j0;rw[HR.o]at DL;obtain⟨QB,hKl,YV,NH⟩:=DL;simp only at QB hKl YV NH;have Zi:=I NH;have FP:=I (show JL K=N by rw[hKl,Oa.o]);rw[Oa.o]at YV;have⟨P,hP⟩:=e9 (Fl K c d);have HP:=I hP;have hpb:=zL K c (d:=d) p8;rw[<-hP,FP.o]at hpb;obtain⟨hdP,hPN⟩:=hpb;have adg:=HB.size;clear hKl NH hP;go_wp2
  go_loop [7] (λat7=>∃k:Nat,at7=.int .i64 (k:Int)/\b9 (d<=k)/\b9 (k<=P)) (λat7=>P-(intOf at7).toNat)
  ·exact⟨d,rfl,I (i8 _),I hdP⟩
  obtain⟨k,rfl,HDK,LM⟩:=hrel;have Kd:=HDK.o;have WA:=LM.o;by_cases hkP:k<P
  ·have SD:k<N:=by omega
   obtain⟨G,rfl,_,_,_⟩:=HM.outer j0;obtain⟨g,gc,hvs,hcell,Fm,hne,_,_,_,_⟩:=HM.row SD (Zi k Qg).1 h1;have⟨b,off,Z,D1⟩:=Fm.ints.at hlt;simp only[bq,H4,E5]at Z;obtain⟨rfl,rfl⟩:=Z;rw[hI,CV p8 Kd (by rw[<-HP.o];exact hkP)]at D1;clear hvs Fm hne;go_wp2
   go_round
   case rel=>exact⟨k+1,by go_num,I j0,I j0⟩
   simp[intOf];omega
  have hkP':k=P:=j0;subst hkP';by_cases SD:k<N
  ·obtain⟨G,rfl,MQ,Tv,JW⟩:=HM.outer j0;have Pj:=JW k;have T7:=JW d;clear JW;have Kt:=fq (M:=K) (c:=c) (d:=d) (by rw[<-HP.o,FP.o];exact SD);rw[<-HP.o]at Kt;have⟨gp,cp,hvp,RT,H,hnp,hbp,hgpl,hncp,hcpm⟩:=HM.row SD (Zi k Qg).1 h1;have⟨gd,cd,YM,hcd,hod,hnd,I5,hgdl,hncd,hcdm⟩:=HM.row (show d<N by omega) (Zi d S3).1 h1;have⟨b,off,Z,D1⟩:=H.ints.at hlt;simp only[bq,H4,E5]at Z;obtain⟨rfl,rfl⟩:=Z;rw[hI]at D1;have⟨pc,YQ⟩:=e9 ((K[k]?.getD [])[c]?.getD 0);rw[<-YQ]at D1 Kt;have RL:pc≠0:=Kt.2.1;have hpcb:(pc == 0)=false:=by simpa using RL
   have Mn:=HM.swap SD (show d<N by omega);rw[hvp,YM]at Mn;have⟨M1,Tu⟩:=e9 (BB K k d);have⟨ab,Qs⟩:=e9 (Rr vs k d);have HVP:=I (show ab[d]?.getD undef=GI (some ⟨gp,0,none⟩) n cp by rw[Qs,lT (by rw[HM.GW];exact SD) (by rw[HM.GW];omega),f9 rfl,hvp]);have Sj:=I (show p7 n (Rf d) M1 by rw[Tu];exact kt Zi.o Qg S3);have Me:=I (show JL M1=N by rw[Tu,dV,FP.o]);have N6:=I (show RK Ed M (c+1)=(GF Ed c M1 d N,d+1)by
    show Ik Ed c (RK Ed M c)=_;rw[HR.o];unfold Ik;simp only;rw[<-HP.o,FP.o,f9 SD,Tu,UG K (a:=k) (b:=d) Qg S3])
   rw[<-Tu,<-Qs]at Mn;have IH:=I Mn;have Hu:d<N:=j0;have Fy:=I ((HB.setCell (p:=⟨G,k,none⟩) MQ (GI (some ⟨gd,0,none⟩) n cd)).setCell (p:=⟨G,d,none⟩) MQ (GI (some ⟨gp,0,none⟩) n cp));clear Mn Kt H hod YQ hvp YM Tu Qs;by_cases B6:d=k
   case' pos =>
    subst B6;have F':=RT.symm.trans hcd;simp only[bq,nP,H4,E5,aF]at F';obtain⟨rfl,rfl⟩:=F';clear hcd
   case' neg=>have hkd':¬k=d:=λe=>B6 e.symm
   all_goals
    go_wp2_with fail;clear RT
    try clear hcd
    have ajD:=I MQ
    go_loopg [9] (N-(d+1)) (λg3 i E=>∃(t:Nat) (vs1:List arQ),b9 (g3+t=N)/\i=.int .i64 (t:Int)/\b9 (d<t)/\b9 (Io E base (some ⟨G,0,none⟩) N cap vs1 (GF Ed c M1 d t))/\b9 (Below base w E)/\b9 (vs1[d]?.getD undef=GI (some ⟨gp,0,none⟩) n cp))
    ·exact⟨d+1,ab,I j0,by go_num,I j0,I (by rw[rS];exact IH),Fy,HVP⟩
    rename Nat=>g3;rename J=>E;obtain⟨t,vs1,HK,rfl,HDT,Lc,Gm,HV3⟩:=hrel;by_cases htN:t<N
    ·have hdt:=HDT.o;have HGR:b9 (p7 n (Rf (d+1)) (GF Ed c M1 d t)):=pZ Sj.o (iA d j0).2.2 xf λp r LC J9 h5 h6=>ys _ n c p r (iA d j0).1 LC J9 h5 h6;have Fq:=I (show(GF Ed c M1 d t).length=N by rw[eC,Me.o]);obtain⟨G',Ij,_,hGl3,JW⟩:=Lc.outer j0;simp only[bq,H4,E5]at Ij;subst Ij;have hft:=JW t;clear JW;obtain⟨gt,ct,RH,hct,Oi,hnt,_,_,hnct,hctm⟩:=Lc.row htN (HGR t (by rw[Fq.o];exact htN)).1 h1;obtain⟨gp',cp',hvp,hcp3,H,hnp3,_,_,_,_⟩:=Lc.row Hu (HGR d (by rw[Fq.o];exact Hu)).1 h1;have F':=HV3.symm.trans hvp;simp only[nP,bq,H4,E5,aF]at F';obtain⟨rfl,rfl⟩:=F';rw[iW _ _ _ _ _ _ (by rw[Me.o];exact htN) j0]at Oi;rw[iW _ _ _ _ _ _ xf j0]at H;have⟨r,hr⟩:=e9 (M1[t]?.getD []);have⟨p,hp⟩:=e9 (M1[d]?.getD []);rw[<-hr]at Oi;rw[<-hp]at H;have Jv:=I (Sj t (by rw[Me.o];exact htN));have PY:=I (Sj d xf);rw[<-hr]at Jv;rw[<-hp]at PY;refine Op Oi H hr hp λHOT LI Fv Jn=>?_;have⟨b,off,Z,D1⟩:=Oi.ints.at hlt;simp only[bq,H4,E5]at Z;obtain⟨rfl,rfl⟩:=Z;rw[hI]at D1;have⟨b,off,Z,RL⟩:=H.ints.at hlt;simp only[bq,H4,E5]at Z;obtain⟨rfl,rfl⟩:=Z;rw[hI]at RL;have⟨rc,LU⟩:=e9 (r[c]?.getD 0);have⟨pc,YQ⟩:=e9 (p[c]?.getD 0);rw[<-LU]at D1;rw[<-YQ]at RL;refine t8 LU YQ (r'.D2 E E _ rfl (i8 _)) λQL Pp HO1=>?_;clear RH hvp Oi H hr hp LU YQ;go_wp2
     go_loopg [11,12] n (λg4 nx kk wr4=>∃(j:Nat) (a1:l9) (n1 p1:Nat),b9 (g4+j=n)/\kk=.int .i64 (j:Int)/\nx=GI a1 n1 p1/\b9 (r' wr4 E (GI a1 n1 p1) ((Ed c p r).take j))/\b9 (C7 E wr4))
     ·exact⟨0,_,_,_,I j0,rfl,rfl,HO1,I WU⟩
     obtain⟨j,a1,n1,p1,HJ,rfl,rfl,EI,aa⟩:=hrel;have TZ:=aa.size;by_cases Ii:j<n
     ·have⟨b,off,Z,hrj⟩:=HOT.ints.at Ii;simp only[bq,H4,E5]at Z;obtain⟨rfl,rfl⟩:=Z;rw[hI]at hrj;have⟨b,off,Z,hpj⟩:=LI.ints.at Ii;simp only[bq,H4,E5]at Z;obtain⟨rfl,rfl⟩:=Z;rw[hI]at hpj;have⟨rj,Tj⟩:=e9 (r[j]?.getD 0);have⟨pj,KK⟩:=e9 (p[j]?.getD 0);rw[<-Tj]at hrj;rw[<-KK]at hpj;have FD:=iA d j0;have E6:=iU (B:=32768) (x:=rj) (y:=pc) (k8 (Jv.2 j)) (k8 (Jv.2 j)) P1 P1;have Ew:=iU (B:=32768) (x:=pj) (y:=rc) (k8 (PY.2 j)) (k8 (PY.2 j)) QJ QJ;have Hn:=dk (rj*pc);have hw2:=dk (pj*rc);have E8:=dk (rj*pc-pj*rc);have HV:=I (show rj*pc-pj*rc=r[j]?.getD 0*p[c]?.getD 0-r[c]?.getD 0*p[j]?.getD 0 by rw[<-Tj,<-KK,<-Pp.o,<-QL.o,TG pj rc]);have HLJ:=I (show((Ed c p r).take j).length=j by rw[k6,fC,Jv.1];omega);clear Tj KK E6 Ew FD;have o7:C7 E wr.drew:=aa.trans (C7.drew wr);have hkA:C7 E (wr.alloc (QD #[.int .i64 (rj*pc-pj*rc)] 3)).drew:=(aa.trans WU).trans cn;have o8:=I λw' (h:C7 E w')=>TX (h.o6 hct) (TX (h.o6 hrj) (TX (h.o6 RL) (TX (h.o6 hpj) h)));go_wp2_with fail
      go_region_held3 (λw'=>w'.cell? ⟨G,t,none⟩=some (GI (some ⟨gt,0,none⟩) n ct)/\w'.cell? ⟨gt,j,none⟩=some (.int .i64 rj)/\w'.cell? ⟨gp,c,none⟩=some (.int .i64 pc)/\w'.cell? ⟨gp,j,none⟩=some (.int .i64 pj)/\C7 E w')
       (first
         | with_reducible exact o8.o _ o7
         | with_reducible exact o8.o _ hkA)
       (first
         | (refine bU _ j9 ?_
            refine aO _ _ j9 E (GI a1 n1 p1) _ j9 ((EI.ext (C7.alloc wr _)).ext cn) _ 1 _ [rj*pc-pj*rc] j9 ((d9.Ie wr _ _ _ rfl).ext cn) OV m9 ?_;intro v5 w5 ho hg r7;obtain⟨a5,n5,p5,rfl,It⟩:=ho.var;have DT:=I ho;have o7:C7 E w5:=aj hkA hg (λj hj=>(EI.lt j hj).1);clear ho hg r7))
      have HK5:=I o7;clear o7;go_wp2_with fail;refine vE ?_;exact⟨j+1,a5,n5,p5,I (k8 HJ.o),by go_num,rfl,I (by rw[<-Vy Sz,<-HV.o];exact DT),HK5⟩
     have QA:j=n:=k8 HJ.o;subst QA;have HPUT:=I (Lc.put aa.o (fy hb Gm.size) EI.o htN);have HVT:=I (show(vs1.set t (GI a1 n1 p1))[d]?.getD undef=GI (some ⟨gp,0,none⟩) j cp by rw[sq j0];exact HV3)
     have HMX:=I (show(GF Ed c M1 d t).set t ((Ed c p r).take j)=GF Ed c M1 d (t+1)by
      rw[bR (by rw[fC,Jv.1];exact i8 _),Fv.o,Jn.o]
      exact oh _ _ _ _ _ hdt (by rw[Me.o];exact htN))
     have Uo:=I ((Gm.trans (Below.mono aa.o (fy hb Gm.size))).setCell (p:=⟨G,t,none⟩) ajD.o (GI a1 n1 p1));have hct4:=aa.o6 hct;have hft4:wr.frozen? ⟨G,t,none⟩=false:=(aa.DY _ _ hGl3).trans hft;go_wp2
     go_roundg (g3-1)
     case measure=>have:=HK.o;omega
     exact⟨t+1,_,I (k8 HK.o),by go_num,I j0,I (by rw[<-HMX.o];exact HPUT),Uo,HVT⟩
    have Wg:t=N:=k8 HK.o;subst Wg;go_wp2_with fail;have HK:=HK3;refine kf ?_;exact⟨c+1,d+1,vs1,_,I (k8 HK3.o),by go_num,by go_num,N6,Lc,Gm⟩
  have N6:=I (show RK Ed M (c+1)=(K,d)by
   show Ik Ed c (RK Ed M c)=_;rw[HR.o];unfold Ik;simp only;rw[<-HP.o,FP.o,f7 SD])
  have hkN':k=N:=j0;subst hkN';go_wp2_with fail;have HK:=HK3;refine kf ?_;exact⟨c+1,d,vs,K,I (k8 HK3.o),by go_num,rfl,N6,HM,HB⟩
 have Mu:c=n:=k8 HK3.o;subst Mu;go_wp2;go_ret;exact⟨au (by rw[HR.o]),HB⟩
theorem DQ.D2(w:J)(base n:Nat)(E:n=w.heap.size)(hb:base<=w.heap.size):DQ (w.alloc (QD #[] 29)) base (EQ n 0 0) []:=by
 subst E;exact wA w #[] 0 hb j0 rfl
def my(h:σ:=by
 (try unfold f8);go_in
 go_wp2_with fail;refine HW.mono ?_;rintro e w1 ⟨rfl,rfl⟩;go_wp2;go_ret;exact⟨qq0 HN.symm,WF⟩
 ):σ:=h
def fo(h:σ:=by
 exact⟨0,_,_,_,[],I j0,rfl,rfl,HO,I (bF.nil _ _),I WU⟩
 ):σ:=h
theorem U1{n:Int}{m cap:Nat}(h:d9 w a m cap l)(hl:∀k:Nat,l[k]?.getD 0<=9223372036854775807)(hm:m<=1048576):
 f8 184 #[U n,GI a m cap] w (U (jS n l)):=by
 have⟨WM,WN⟩:=h.aq9;refine t8 h.hlen h hl λHL HI FN=>?_;clear h hl;cases G:A4 n 1 5
 ·have HN:=I (show jS n l=0 by unfold jS;rw[G];rfl);have HW:=I (bj n 1 5 w);rw[G]at HW;clear G;have qq0:=@au;exact my
 obtain⟨E,rfl⟩:∃k:Nat,n=k:=⟨n.toNat,by simp only[A4,eI,ef]at G;omega⟩;have h15:1<=E/\E<=5:=by simp only[A4,eI,ef]at G;omega
 obtain⟨h1,h5⟩:=h15;have HN:=I (show jS (E:Int) l=((RK Ed (l.map (G8 E)) E).2:Int)by unfold jS;rw[f9 G];rfl);have HW:=I (bj E 1 5 w);rw[G]at HW;have HO:=I (DQ.D2 w w _ rfl (i8 _));clear G;unfold f8;go_in
 go_wp2_with fail;refine HW.mono ?_;rintro e w1 ⟨rfl,rfl⟩;go_wp2
 go_loopg [5,6] m (λgk out i wr=>∃(k:Nat) (a1:l9) (K Z:Nat) (vs:List arQ),b9 (gk+k=m)/\i=U k/\out=GI a1 K Z/\b9 (DQ wr w (GI a1 K Z) vs)/\b9 (bF wr w vs ((l.take k).map (G8 E)))/\b9 (C7 w wr))
 ·exact fo
 rename Nat=>g1;rename J=>y9;obtain⟨k,a1,K,Z,vs,HK,rfl,rfl,HV,HR,HX⟩:=hrel;have hsz:=HX.size;by_cases hlt:k<m
 ·have⟨b,off,ha,Ks⟩:=(HI.ext HX).at hlt;subst ha;have⟨s,hs⟩:=e9 (l[k]?.getD 0);rw[<-hs]at Ks;have HS:=I hs;have Jc:s<=9223372036854775807:=by rw[hs];exact FN.o k
  have HO1:=I (r'.D2 y9 y9 _ rfl (i8 _));have Mz:=I (show JL vs=k by rw[HR.len,dc,k6];have:=HL.o;omega);clear hs;go_wp2
  go_loopg [7,8] E (λgk row i wr=>∃(j:Nat) (a2:l9) (n2 p2:Nat),b9 (gk+j=E)/\i=U j/\row=GI a2 n2 p2/\b9 (r' wr y9 (GI a2 n2 p2) (G8 j s))/\b9 (C7 y9 wr))
  ·exact O0
  obtain⟨j,a2,n2,p2,HJ,rfl,rfl,B9,H⟩:=hrel;have KI:=H.size;by_cases Ii:j<E
  ·have J8:=H.o6 Ks;have HLJ:=I (mb j s)
   go_wp2_with (first
    | (go_at_call 99;refine cP (bE s (j:Int) _ Jc) ?_)
    | (go_at_call 170;refine cP (fH (Gd s (j:Int)) _) ?_)
    | (at_builtin;refine Ub (D3 (Gd s (j:Int))) B9 H OV λa5 n5 p5 w5 It X5 DT=>?_))
   refine vE ?_;exact⟨j+1,a5,n5,p5,I (k8 HJ.o),by go_num,rfl,I (by rw[<-tU];exact DT),X5⟩
  have QA:j=E:=k8 HJ.o;subst QA
  go_wp2_with (first
   | (at_builtin;refine eY rfl _ _ rfl w (GI a1 K Z) vs rfl ((HV.ext H).ext WU) _ _ 1 rfl N3 rfl (k8 Mz.o) m9 ?_;intro v6 w6 ho hg r7;obtain⟨a6,n6,p6,rfl,Ia⟩:=ho.var;have EP:=I ho;have Po:=I (((HR.snoc H.o B9.o hsz).ext WU).Gx ((HV.ext H).ext WU) hg);have X6:=I (aj ((HX.trans H).trans WU) hg (λj hj=>(HV.lt j hj).1));clear ho hg r7))
  refine kf ?_;exact⟨k+1,a6,n6,p6,_,I (k8 HK.o),by go_num,rfl,EP,I Tq,X6⟩
 have Iq:k=m:=k8 HK.o;subst Iq;have HT:b9 (l.take k=l):=bR b6;have Kw:=I (show K=k by rw[<-HV.len,HR.len,HT.o,dc,HL.o]);have HM:b9 (Io y9 w a1 K Z vs (l.map (G8 E))):=I ⟨HV,by have:=HR.o;rw[HT.o]at this;exact this⟩;have HC:=I (Dr HM.o (mh E l) h1 h5 (by rw[Kw.o];exact hm) hsz);go_wp2_with fail;refine i7 HC λw2 hb=>?_;have HB:=I (HX.Qj hb);go_wp2;go_ret;exact⟨au HN.symm,HB⟩
theorem Dz(k:Int)(m:Nat):EK k m++[k+(m:Int)]=EK k (m+1):=by simp[EK,rN]
def pv(h:σ:=by
 subst D7;go_wp2;go_ret;exact⟨⟨_,rfl,HR⟩,GV⟩
 ):σ:=h
theorem kx(lo hi:Int)(n:Nat)(h0:0<=lo)(h1:lo<=1000)(hn:hi+1-lo=n)(hb:n<=1000):
 Calls prog 196 #[U lo,U hi] w λe w'=>(∃v,e=ar v/\r' w' w v (EK lo n))/\C7 w w':=by
 have HN:=I hn;have G:hi=lo+(n:Int)-1:=j0;have hh1:-1<=hi:=j0;have hh2:hi<=2000:=j0;have HH:=I G;have HO:=I (r'.D2 w w _ rfl (i8 _));clear hn G;go_in
 go_wp2
 go_loopg [5,6] n (λgk oo ii wr=>∃(k:Nat) (i:Int) (Z:l9) (K H:Nat),b9 (gk+k=n)/\b9 (i=lo+(k:Int))/\ii=U i/\oo=GI Z K H/\b9 (r' wr w (GI Z K H) (EK lo k))/\b9 (C7 w wr))
 ·exact⟨0,lo,_,_,_,I j0,I j0,rfl,rfl,HO,I WU⟩
 obtain⟨k,i,Z,K,H,HK,E,rfl,rfl,HR,GV⟩:=hrel;have hsz:=GV.size;have hi0:0<=i:=k8 E.o;have hi1:i<=2001:=by have:=E.o;have:=HK.o;omega
 by_cases hlt:k<n
 ·have hle:i<=hi:=by have:=E.o;have:=HH.o;omega
  have HL:=I (xX lo k)
  go_wp2_with (first
   | (at_builtin;refine Ub i HR GV o1 λa5 n5 p5 w5 It X5 DT=>?_))
  refine er ?_;exact⟨k+1,i+1,a5,n5,p5,I (k8 HK.o),I (k8 E.o),rfl,rfl,I (by have:=DT.o;rw[E.o,Dz]at this;exact this),X5⟩
 have D7:k=n:=k8 HK.o;have hnle:¬i<=hi:=by have:=E.o;have:=HH.o;omega
 exact pv
theorem U7(n:Nat)(x:Int){k:Nat}(h:k<n):(List.replicate k x++List.replicate (n-k) 0).set k x=List.replicate (k+1) x++List.replicate (n-(k+1)) 0:=by
 rw[ct _ _ j7];simp only[G6,Y'];obtain⟨d,E⟩:∃d,n-k=d+1:=⟨n-k-1,by omega⟩;rw[E,Zj,MY,show n-(k+1)=d by omega,eo,yf];rfl
def W2(h:σ:=by
 go_wp2_with fail;refine er ?_;exact⟨k+1,I (k8 HK.o),by go_num,HT,X2⟩
 ):σ:=h
theorem fZ(n:Nat)(x:Int)(hb:n<=8000000):
 Calls prog 197 #[U n,U x] w λe w'=>(∃v,e=ar v/\r' w' w v (List.replicate n x))/\C7 w w':=by
 have hmk:=kj n j0;have HR:b9 (nM (w.alloc (QD (bH (List.replicate n 0)) 3)) w 3 (List.replicate n 0)):=vC _ _;go_in
 go_wp2
 go_loopg [11] n (λgk Z wr=>∃k:Nat,b9 (gk+k=n)/\Z=U k/\b9 (nM wr w 3 (List.replicate k x++List.replicate (n-k) 0))/\b9 (C7 w wr))
 ·exact⟨0,I j0,rfl,I (by simpa using HR.o),I WU⟩
 obtain⟨k,HK,rfl,E,K⟩:=hrel;by_cases G:k<n
 ·have hc:=E.cell (k:=k) m9;have hf:=E.free k;have HT:=I (show nM (wr.setCell (O w k) (U x)) w 3 (List.replicate (k+1) x++List.replicate (n-(k+1)) 0)by rw[<-U7 n x G];exact E.set k x);have X2:=I (K.setCell (p:=(O w k)) (i8 _) (U x));exact W2
 have DV:k=n:=k8 HK.o;subst DV;have H:=I (show nM wr w 3 (List.replicate k x)by have:=E.o;simpa using this);go_wp2;go_ret;exact⟨⟨_,rfl,H.own (i8 _) j7 j0⟩,K⟩
def DK(l:o3)(k:Nat):o3:=l.map λs=>D3 (Gd s (k:Int))
def EL(n:Nat)(l:o3):l8:=(List.range n).map (DK l)
theorem ur(k:Nat)(l:o3):EL k l++[DK l k]=EL (k+1) l:=by simp[EL,rN]
theorem lj{j k:Nat}{b:Bool}(h:j<JL l)(hb:Gd (l[j]?.getD 0) (k:Int)=b):DK (l.take j) k++[D3 b]=DK (l.take (j+1)) k:=by
 rw[cW h,<-hb];simp[DK]
def W4(h:σ:=by
 refine vE ?_;exact⟨j+1,a5,n5,p5,I (k8 HJ.o),by go_num,rfl,I (by rw[<-HDS.o];exact DT),X5⟩
 ):σ:=h
theorem kZ(n:Nat)(hn:n<=5){m cap:Nat}(h:d9 w a m cap l)(hl:∀k:Nat,l[k]?.getD 0<=9223372036854775807)(hm:m<=8000000):
 Calls prog 195 #[U n,GI a m cap] w λe w'=>(∃v,e=ar v/\bZ w' w v (EL n l))/\C7 w w':=by
 have⟨WM,WN⟩:=h.aq9;refine Op h.hlen h hl (DQ.D2 w w _ rfl (i8 _)) λHL HI FN HO=>?_;clear h hl;go_in
 go_wp2
 go_loopg [5,13] n (λgk out ii wr=>∃(k:Nat) (K:l9) (H G:Nat) (vs:List arQ),b9 (gk+k=n)/\ii=U k/\out=GI K H G/\b9 (DQ wr w (GI K H G) vs)/\b9 (bF wr w vs (EL k l))/\b9 (C7 w wr))
 ·exact fo
 rename Nat=>g1;rename J=>y9;obtain⟨k,K,H,G,vs,HK,rfl,rfl,HV,HR,HX⟩:=hrel;have hsz:=HX.size;by_cases hlt:k<n
 ·have HO1:=I (r'.D2 y9 y9 _ rfl (i8 _));have Mz:=I (show JL vs=k by rw[HR.len];simp[EL]);go_wp2
  go_loopg [7,19] m (λgk row ii wr=>∃(j:Nat) (a2:l9) (n2 p2:Nat),b9 (gk+j=m)/\ii=U j/\row=GI a2 n2 p2/\b9 (r' wr y9 (GI a2 n2 p2) (DK (l.take j) k))/\b9 (C7 y9 wr))
  ·exact O0
  obtain⟨j,a2,n2,p2,HJ,rfl,rfl,Z,E⟩:=hrel;have KI:=E.size;by_cases Ii:j<m
  ·have⟨b,off,ha,Ks⟩:=(HI.ext (HX.trans E)).at Ii;subst ha;have⟨s,hs⟩:=e9 (l[j]?.getD 0);rw[<-hs]at Ks;have Jc:s<=9223372036854775807:=by rw[hs];exact FN.o j
   have HLJ:=I (show(DK (l.take j) k).length=j by simp[DK];have:=HL.o;omega);have Sh:=I (gZ s (k:Int) wr Jc);cases T6:Gd s (k:Int)
   case' true =>
    rw[T6]at Sh;have HDS:b9 (DK (l.take j) k++[(1:Int)]=DK (l.take (j+1)) k):=lj (l:=l) (j:=j) (k:=k) (b:=true) (k8 HL.o) (by rw[hs]at T6;exact T6);clear T6
   case' false =>
    rw[T6]at Sh;have HDS:b9 (DK (l.take j) k++[(0:Int)]=DK (l.take (j+1)) k):=lj (l:=l) (j:=j) (k:=k) (b:=false) (k8 HL.o) (by rw[hs]at T6;exact T6);clear T6
   all_goals
    clear hs;go_wp2_with fail;refine cP Sh ?_
   ·go_wp2_with (first
     | (at_builtin;refine Ub _ Z E OV λa5 n5 p5 w5 It X5 DT=>?_))
    exact W4
   go_wp2_with (first
    | (at_builtin;refine Ub _ Z E OV λa5 n5 p5 w5 It X5 DT=>?_))
   exact W4
  have Ln:j=m:=k8 HJ.o;subst Ln;have HT:b9 (l.take j=l):=bR b6;rw[HT.o]at Z
  go_wp2_with (first
   | (at_builtin;refine eY rfl _ _ rfl w (GI K H G) vs rfl ((HV.ext E).ext WU) _ _ 1 rfl N3 rfl (k8 Mz.o) m9 ?_;intro v6 w6 ho hg r7;obtain⟨a6,n6,p6,rfl,Ia⟩:=ho.var;have EP:=I ho;have Po:=I (((HR.snoc E.o Z.o hsz).ext WU).Gx ((HV.ext E).ext WU) hg);have X6:=I (aj ((HX.trans E).trans WU) hg (λj hj=>(HV.lt j hj).1));clear ho hg r7))
  refine kf ?_;exact⟨k+1,a6,n6,p6,_,I (k8 HK.o),by go_num,rfl,EP,I (by rw[<-ur];exact Po),X6⟩
 have DV:k=n:=k8 HK.o;subst DV;go_wp2;go_ret;exact⟨⟨_,rfl,vs,HV,HR⟩,HX⟩
end
section
def dM(q n:Nat):l8:=EL q (EK 1 (n-1))
def dY(q:Nat):o3:=List.replicate q 1
def aW(V:o3):l7:=(V.drop 1).map λv=>(-v,1)
def BZ{p:Int}{V:o3}(h:ak p V=true)(A:l8)(B:o3):bG az A B (aW V)=fc A B (aW V):=by
 obtain⟨q,rfl,_,_,_,_,hb⟩:=ap h;refine jW λ_ j E=>xt ⟨-((V.drop 1)[j]?.getD 0),?_,?_⟩
 ·unfold aW at E⊢;rw[dc]at E;rw[vM,Id E];rfl
 unfold aW at E;rw[dc]at E;rw[Id E,Nm];have:=hb _ (List.mem_of_mem_drop (eN E));omega
def eL(g:Int)(r:G9):(Int×Int)×Bool:=Ev (g,1) r.value
def Pz(r:G9):l7:=r.Y.map C5
def jM(g:Int)(r:G9):(Int×Int)×Bool:=Ev ((Pz r)[JL (Pz r)-1]?.getD (0,0)) (eL g r).1
def aS(g:Int)(r:G9):l7:=(Pz r).set (JL (Pz r)-1) (jM g r).1
def DA{a x b c:Int}(hb:0<b)(hc:0<c)(h:a*c=x*b):a<0↔x<0:=by
 constructor
 ·intro G;rcases VC x 0 with E|E
  ·exact E
  have K:=Int.mul_neg_of_neg_of_pos G hc;have H:=B3 E (Int.le_of_lt hb);omega
 intro hx;rcases VC a 0 with E|E
 ·exact E
 have K:=Int.mul_neg_of_neg_of_pos hx hb;have H:=B3 E (Int.le_of_lt hc);omega
def BF{g:Int}{r:G9}(h:(eL g r).2=true):0<DM (C5 r.value) (g,1)↔(eL g r).1.1<0:=by
 unfold eL at h⊢;obtain⟨K,E,h3,_⟩:=oU h;have hb:=aU E;have hs:=aU h3;have Q:z7 (C5 r.value)=true:=by rw[eu];exact E
 have he:Ev (g,1) r.value=aN (g*r.value.2+r.value.1*1) (1*r.value.2):=by unfold Ev;rw[K,E];rfl
 rw[he]at h hs⊢;have Z:=(mJ j0 h);have hc:DM (C5 r.value) (g,1)=if -r.value.1*1<g*r.value.2 then -1 else if g*r.value.2 < -r.value.1*1 then 1 else 0:=by unfold DM;rw[Q,K];rfl
 rw[hc];have J7:=DA (a:=(aN (g*r.value.2+r.value.1*1) (1*r.value.2)).1.1) (x:=g*r.value.2+r.value.1*1) (b:=(aN (g*r.value.2+r.value.1*1) (1*r.value.2)).1.2) (c:=r.value.2) j0 j0 (by have:=Z.2.2;rw[Int.one_mul]at this;simpa using this);rw[J7];by_cases H:-r.value.1*1<g*r.value.2
 ·rw[f9 H];omega
 rw[f7 H];by_cases G:g*r.value.2 < -r.value.1*1
 ·rw[f9 G];omega
 rw[f7 G];omega
def OZ(h:σ:=by
 (try unfold f8);go_in
 go_wp2;refine Fn (by simp[results,qq0,go_sem]<;>rfl) rfl ⟨rfl,?_⟩;exact WU.trans WU
 ):σ:=h
def eX(x y:Int)(w:J)(h0:-9223372036854775807<=x)(h1:x<=9223372036854775807):
 f8 129 #[EF x y] w (EF (-x) y):=by
 have qq0:=@Tryz.results129;exact OZ
def eW(x y:Int)(w:J)(h0:-9223372036854775807<=x)(h1:x<=9223372036854775807):
 f8 106 #[EF x y] w (EF (-x) y):=by
 have qq0:=@Tryz.results106;exact OZ
end
section
variable{w w' w1 w2:J}{ra ba a:l9}{rn rc bn bc base' base g n m:Nat}{t:Tb}{x y z vb va:arQ}{r cost costs:l7}{vs:List arQ}{fid:FuncId}
structure OT(w:J)(ra:l9)(rn rc:Nat)(ba:l9)(bn bc:Nat)(t:Tb):Prop where
 rows:jf w ra rn rc t.rows
 basis:d9 w ba bn bc t.basis
theorem OT.ext(h:OT w ra rn rc ba bn bc t)(hx:C7 w w'):OT w' ra rn rc ba bn bc t:=⟨h.rows.ext hx,h.basis.ext hx⟩
abbrev Oe(ra:l9)(rn rc:Nat)(ba:l9)(bn bc:Nat)(x:Int):arQ:=.agg #[GI ra rn rc,GI ba bn bc,.int .i64 x]
abbrev de(ra:l9)(rn rc:Nat)(ba:l9)(bn bc:Nat)(x:Int):Obj:=QD #[GI ra rn rc,GI ba bn bc,.int .i64 x] 151
structure JN(w:J)(base g:Nat)(va vb:arQ)(x:Int)(vs:List arQ)(M:List (l7))(l:o3):Prop where
 box:w.heap[g]?=some (QD #[va,vb,U x] 151 (0,0))
 hg:base<=g
 a:Gr w base va vs
 rows:ev w base vs M
 b:r' w base vb l
section
variable{w:J}{base g:Nat}{va vb:arQ}{x:Int}{vs:List arQ}{M:List (l7)}{l:o3}
theorem JN.lt(h:JN w base g va vb x vs M l):g<w.heap.size:=In h.box
theorem JN.ext{w':J}(h:JN w base g va vb x vs M l)(hx:C7 w w'):JN w' base g va vb x vs M l :=
 ⟨(hx.block _ h.lt).trans h.box,h.hg,h.a.ext hx,h.rows.ext hx,h.b.ext hx⟩
theorem aw{x y z:arQ}{t:TypeId}(h:w.heap[g]?=some (QD #[x,y,z] t (0,0))):w.cell? (O g 0)=some x:=by rw[aR w g 0 _ _ _ h];rfl
theorem aI{x y z:arQ}{t:TypeId}(h:w.heap[g]?=some (QD #[x,y,z] t (0,0))):w.cell? (O g 1)=some y:=by rw[aR w g 1 _ _ _ h];rfl
theorem aJ{x y z:arQ}{t:TypeId}(h:w.heap[g]?=some (QD #[x,y,z] t (0,0))):w.cell? (O g 2)=some z:=by rw[aR w g 2 _ _ _ h];rfl
theorem gl{w:J}{g:Nat}{x y z:arQ}{t:TypeId}(h:w.heap[g]?=some (.cells #[x,y,z] t (0,0))):w.cell? ⟨g,0,none⟩=some x/\w.cell? ⟨g,1,none⟩=some y/\w.cell? ⟨g,2,none⟩=some z:=⟨aw h,aI h,aJ h⟩
theorem dZ{x y z:arQ}{t:TypeId}(h:w.heap[g]?=some (QD #[x,y,z] t (0,0)))(k:Nat):w.frozen? (O g k)=false:=mo w g k _ _ h
theorem JN.Lf{w1 w2:J}(h:JN w base g va vb x vs M l)(hx:C7 w w1){E OD:arQ}{r:l7}(hr:WV w1 w E r)(WS:base<=w.heap.size)(G:w1.grownBy w2 va.ownBlock)(ho:Gr w2 base OD (vs++[E])):
 JN (w2.setCell (O g 0) OD) base g OD vb x (vs++[E]) (M++[r]) l:=by
 have h1:=h.ext hx;have E4:w2.heap[g]?=some (QD #[va,vb,U x] 151 (0,0)):=(G.block g h1.lt (aq h1.a h1.box Fd)).trans h1.box;have Fx:∀k,k≠g->(w2.setCell (O g 0) OD).heap[k]?=w2.heap[k]?:=λk hk=>GE _ _ _ _ hk
 have PL:r' w2 base vb l:=h1.b.keep λk hk=>G.block k (h1.b.lt k hk).2 λe=>aL Fd h1.b h1.a k hk e.symm
 have WX:ev w1 base (vs++[E]) (M++[r]):=h.rows.snoc hx hr WS;have QF:ev w2 base (vs++[E]) (M++[r]):=WX.keep λi k hi hk=>G.block k ((WX.row i hi).lt k hk).2 λe=>(WX.row i hi).apart h1.a k hk e.symm
 refine⟨?_,h.hg,?_,?_,?_⟩
 ·have:=cE w2 g 0 _ _ OD E4;exact this
 ·exact Ug
 ·exact Qr
 exact WY
theorem JN.OR{w1 w2:J}(h:JN w base g va vb x vs M l)(hx:C7 w w1)(hg:w1.grownBy w2 va.ownBlock):w2.heap[g]?=some (QD #[va,vb,U x] 151 (0,0)) :=
 (hg.block g (h.ext hx).lt (aq (h.ext hx).a (h.ext hx).box Fd)).trans (h.ext hx).box
theorem JN.OQ{w1 w2:J}(h:JN w base g va vb x vs M l)(hx:C7 w w1)(hg:w1.grownBy w2 vb.ownBlock):w2.heap[g]?=some (QD #[va,vb,U x] 151 (0,0)) :=
 (hg.block g (h.ext hx).lt (aq (h.ext hx).b (h.ext hx).box Fd)).trans (h.ext hx).box
theorem JN.pushB{w1 w2:J}(h:JN w base g va vb x vs M l)(hx:C7 w w1){S9:arQ}{H:o3}(G:w1.grownBy w2 vb.ownBlock)(ho:r' w2 base S9 H):
 JN (w2.setCell (O g 1) S9) base g va S9 x vs M H:=by
 have E:=h.ext hx;have E4:=h.OQ hx G;have Fx:∀k,k≠g->(w2.setCell (O g 1) S9).heap[k]?=w2.heap[k]?:=λk hk=>GE _ _ _ _ hk
 have hA2:Gr w2 base va vs:=E.a.keep λk hk=>G.block k (E.a.lt k hk).2 λe=>aL Fd E.a E.b k hk e.symm
 have QF:ev w2 base vs M:=E.rows.keep λi k hi hk=>G.block k ((E.rows.row i hi).lt k hk).2 λe=>aL Fd (E.rows.row i hi) E.b k hk e.symm
 refine⟨?_,h.hg,?_,?_,?_⟩
 ·have:=cE w2 g 1 _ _ S9 E4;exact this
 ·exact T3
 ·exact Qr
 exact Ug
theorem JN.new{E:J}{vb:arQ}{base':Nat}(hb:r' E base' vb l)(SI:base<=base')(hs:base<=E.heap.size):
 JN (E.alloc (QD #[d6,vb,U x] 151)) base E d6 vb x [] [] l :=
 ⟨vC _ _,hs,WD _ base _ 1,ev.nil _ _,(hb.mono SI).ext WU⟩
theorem JN.ZN{G:J}{vb v0 v1 v2:arQ}{base':Nat}(H:G.heap[g]?=some (QD #[v0,v1,v2] 151 (0,0)))(hb:r' G base' vb l)(SI:base<=base')(hs:base<=g):
 JN (((G.setCell (O g 0) d6).setCell (O g 1) vb).setCell (O g 2) (U x)) base g d6 vb x [] [] l:=by
 have Z:=cE G g 0 _ _ d6 H;have Q:=cE _ g 1 _ _ vb Z;have K:=cE _ g 2 _ _ (U x) Q;refine⟨K,hs,WD _ base _ 1,ev.nil _ _,?_⟩;refine(hb.mono SI).keep λk hk=>?_;have E:k≠g:=λe=>(aq hb H Fd) RA;rw[GE _ _ _ _ E,GE _ _ _ _ E,GE _ _ _ _ E]
end
structure Fp(w:J)(base:Nat)(va vb:arQ)(vs:List arQ)(t:Tb):Prop where
 a:Gr w base va vs
 rows:ev w base vs t.rows
 b:r' w base vb t.basis
theorem Fp.ext(h:Fp w base va vb vs t)(hx:C7 w w'):Fp w' base va vb vs t:=⟨h.a.ext hx,h.rows.ext hx,h.b.ext hx⟩
theorem Fp.mono(h:Fp w base va vb vs t)(hb:base'<=base):Fp w base' va vb vs t :=
 ⟨by
  refine⟨h.a.1,?_⟩
  rcases h.a.2 with G|⟨g,cap,E,rfl,H,rest⟩
  ·exact .inl G
  exact .inr ⟨g,cap,E,rfl,fy hb H,rest⟩,⟨h.rows.len,λi hi=>(h.rows.row i hi).mono hb,h.rows.apart⟩,h.b.mono hb⟩
theorem Fp.I3(h:Fp w base (GI ra rn rc) (GI ba bn bc) vs t):OT w ra rn rc ba bn bc t :=
 ⟨qL.agk ⟨vs,h.a,h.rows⟩,h.b.ints⟩
theorem Fp.FJ(h:Fp w base va vb vs t)(E:∀k,base<=k->w'.heap[k]?=w.heap[k]?):Fp w' base va vb vs t :=
 ⟨h.a.keep λk e=>E k (h.a.lt k e).1,h.rows.keep λi k hi e=>E k ((h.rows.row i hi).lt k e).1,h.b.keep λk e=>E k (h.b.lt k e).1⟩
theorem dS(w:J)(b k:Nat)(x y z:arQ)(h:k≠b):(((w.setCell (O b 0) x).setCell (O b 1) y).setCell (O b 2) z).heap[k]?=w.heap[k]?:=by
 rw[GE _ _ _ _ h,GE _ _ _ _ h,GE _ _ _ _ h]
theorem JN.own{x:Int}{M:List (l7)}{l:o3}(h:JN w base g va vb x vs M l):Fp w base va vb vs ⟨M,l,x⟩:=⟨h.a,h.rows,h.b⟩
theorem C7.IM(h:C7 w w'){b:Nat}(hb:w.heap.size<=b)(x y z:arQ):C7 w (((w'.setCell (O b 0) x).setCell (O b 1) y).setCell (O b 2) z):=((h.setCell (p:=(O b 0)) hb _).setCell (p:=(O b 1)) hb _).setCell (p:=(O b 2)) hb _
theorem lX{cap:Nat}{l:l7}(h:i6 w a n cap l)(hb:n<=1099511627776):
 Calls prog 55 #[GI a n cap] w λe w'=>∃v,e=ar v/\WV w' w v l/\C7 w w':=by
 have heq:∀w':J,(binOp .eql 32 (GI a n cap) d6).run prog w'=.ok (bl a.isNone) w':=λw'=>V4 w' _ _ a n cap 0 0 YN
 have HL:=I h.hlen;cases a with
 | none =>
   have hl:l=[]:=by
    exact N1
   have qq0:=@WV.nil;exact s'
 | some ad =>
   simp only[E3]at heq;have H:=I (h.ext (C7.alloc w (QD #[] 56)));have G:=I (WV.made w w (i8 _));clear h;go_in
   go_wp2_with (at_builtin;refine cG rfl _ _ rfl w _ _ rfl G.o _ n _ l rfl H.o Yu j7 ?_;intro v' w1 ho hg r7);go_ret;exact⟨_,rfl,by simpa using ho,aj WU hg (λk E=>wZ (tu (show some w.heap.size=some k from E)))⟩
def M9(P:Program)(w:J)(fid:FuncId)(ca:Array arQ)(p:l7->Bool):Prop :=
 ∀a n cap r (w1:J),C7 w w1->i6 w1 a n cap r->Calls P fid (#[GI a n cap]++ca) w1 λe w2=>e=ar (bl (p r))/\C7 w1 w2
theorem tp{cap:Nat}{l:List (l7)}{ca:Array arQ}{p:l7->Bool}(h:jf w a n cap l)(hg:NE prog fid)(hf:M9 prog w fid ca p):
 f8 341 #[GI a n cap,.func (.func fid) #[] ca] w (U (dg p l)):=by
 have⟨hn,hm⟩:=h.aq9;refine t8 h.hlen h hf λHL HI H=>?_;clear h hf;have Tr:∀(args:Array arQ) (w:J),(callFunc fid args).run prog w=.ok (.enter fid args) w:=hg;unfold f8;go_in
 go_wp2
 go_loopg [8] n (λgk ii wr=>∃k:Nat,b9 (gk+k=n)/\ii=U k/\b9 ((l.take k).all (λx=>!p x)=true)/\b9 (C7 w wr))
 ·exact N0
 obtain⟨k,HK,rfl,K,HX⟩:=hrel;by_cases E:k<n
 ·obtain⟨b,off,ra,rn,rc,rfl,D1,Z⟩:=(HI.ext HX).at E;have G:=I (H _ _ _ _ wr HX.o Z);clear Z;have FP:=I (show k<JL l by rw[HL.o];exact E);cases hb:p (l[k]?.getD [])
  all_goals
   rw[hb]at G
  ·have HT:=I (show(l.take (k+1)).all (λx=>!p x)=true by
    rw[fw FP.o,tn,K.o];simp only[Zd,QV,hb];rfl)
   clear hb;go_wp2_with fail;refine IR G λw2 C4=>?_;exact Ob
  have HF:b9 (dg p l=k):=fJ (d:=[]) FP.o K.o hb;clear hb;go_wp2_with fail;refine G.mono ?_;exact k5
 have HT:=I (show dg p l=-1 by
  have h2:=K.o;rw[bR o1]at h2;exact eD h2)
 go_wp2;go_ret;exact⟨au HT.symm,HX⟩
theorem oY{cap:Nat}{l:List (l7)}{ca:Array arQ}{p:l7->Bool}(h:jf w a n cap l)(hg:NE prog fid)(E:M9 prog w fid ca p):
 f8 331 #[GI a n cap,.func (.func fid) #[] ca] w (bl (l.any p)):=by
 have HC:=I (tp h hg E);clear h E;exact YQ
theorem Cv(z:Int){h:Nat}{x:Int}(hx:0<=x/\x<=1000)(hm:m<=1048576)(h1:w.cell? (O g 2)=some (U x))(h2:w.cell? (O h 0)=some (U m)):
 f8 330 #[U z,aP (some (O g 0)),aP (some (O h 0))] w (bl (!A4 z 0 (x+(m:Int)-1))):=by
 obtain⟨B8,A'⟩:=hx;unfold f8;go_in
 go_wp2_with (go_at_call 82;refine cP pk ?_);go_ret;exact⟨rfl,WF⟩
theorem AF:NE prog 330:=cR func330 j8 j8
theorem Cw{cap:Nat}(hr:i6 w a n cap r){h:Nat}{x:Int}(hx:0<=x/\x<=1000)(hm:m<=1048576)(h1:w.cell? (O g 2)=some (U x))(h2:w.cell? (O h 0)=some (U m)):
 f8 332 #[GI a n cap,aP (some (O g 0)),aP (some (O h 0))] w (bl (!decide ((JL r:Int)=x+(m:Int)+1))):=by
 obtain⟨B8,A'⟩:=hx;have⟨hc,hm⟩:=hr.aq9;have E:=I hr.hlen;clear hr;unfold f8;go_in
 go_wp2;go_ret;refine⟨ag ?_,WF⟩;rw[E.o];by_cases e:(n:Int)=x+(m:Int)+1
 ·rw[UV e];simpa using e
 rw[Ok e];simpa using e
theorem AG:NE prog 332:=cR func332 j8 j8
theorem ZS{α:Type}(l:List α)(p:α->Bool):(!l.any λx=>!p x)=l.all p:=by rw[xy];simp
theorem zh{α:Type}(l:List α)(p:α->Bool):(l.any λx=>!p x)=!l.all p:=by rw[<-ZS,R']
section
variable{w:J}{ra:l9}{rn rc:Nat}{ba:l9}{bn bc:Nat}{t:Tb}
def o'(h:σ:=by
 have X1:=I (A8.trans hx);clear hx;go_wp2;go_ret;exact⟨qq0 HN.symm,X1⟩
 ):σ:=h
theorem kz(h:OT w ra rn rc ba bn bc t)(IT:rn<=1048576):
 f8 315 #[Oe ra rn rc ba bn bc t.A6] w (bl (Ib t)):=by
 obtain⟨rows,basis,x⟩:=t;have Z:=(C7.alloc w (de ra rn rc ba bn bc x)).trans (C7.alloc _ (QD #[U rn] 3));have A8:=I Z;have H:=I (h.ext Z);have⟨Eh,FZ⟩:=h.rows.aq9;have⟨E6,Ew⟩:=h.basis.aq9;have Ft:=I h.rows.hlen;have FN:=I h.basis.hlen;have K:=I (show Ib ⟨rows,basis,x⟩=(A4 x 0 1000&&(decide (bn=rn)&&(basis.all (λb=>A4 b 0 (x+(rn:Int)-1))&&rows.all (λr=>decide ((JL r:Int)=x+(rn:Int)+1)))))by
  unfold Ib;simp only;rw[h.rows.hlen,h.basis.hlen])
 clear h Z;show Calls _ _ #[Oe ra rn rc ba bn bc x] w _;have G:=I (λw=>av x 0 1000 w);cases E:A4 x 0 1000
 ·rw[E]at G K;clear E;go_in
  go_wp2_with fail;refine(G _).mono ?_;rintro e w1 ⟨rfl,rfl⟩;go_wp2;go_ret;exact⟨ag K.symm,A8⟩
 have QY:0<=x/\x<=1000:=by unfold A4 at E;simp at E;exact E
 have Ov:=I QY;rw[E]at G K;clear E QY;by_cases Nj:bn=rn
 ·subst Nj;have FD:((bn:Int) != (bn:Int))=false:=by simp
  have HN:=I (show Ib ⟨rows,basis,x⟩=(basis.all (λb=>A4 b 0 (x+(bn:Int)-1))&&rows.all (λr=>decide ((JL r:Int)=x+(bn:Int)+1)))by rw[K.o,UV rfl];rfl);have Sn:=I (dH (ca:=#[aP (some (O w 0)),aP (some (O (w+1) 0))]) H.basis AF (p:=λb=>!A4 b 0 (x+(bn:Int)-1)) (λz w1 hx=>Cv z Ov.o IT (hx.o6 j7) (hx.o6 j7)));rw[zh]at Sn;cases hb:basis.all (λb=>A4 b 0 (x+(bn:Int)-1))
  ·rw[hb]at Sn HN;clear hb;go_in
   go_wp2_with fail;refine(G _).mono ?_;rintro e w1 ⟨rfl,rfl⟩;go_wp2_with fail;refine IR Sn λw2 hx=>?_;have qq0:=@ag;exact o'
  rw[hb]at Sn HN;clear hb;go_in
  go_wp2_with fail;refine(G _).mono ?_;rintro e w1 ⟨rfl,rfl⟩;go_wp2_with fail;refine i7 Sn λw2 hx=>?_;have Ju:=I (oY (ca:=#[aP (some (O w 0)),aP (some (O (w+1) 0))]) (H.ext hx).rows AG (p:=λr=>!decide ((JL r:Int)=x+(bn:Int)+1)) (λa n cap r w1 C4 hr=>Cw hr Ov.o IT ((hx.trans C4).o6 j7) ((hx.trans C4).o6 j7)));rw[zh]at Ju;have hq:w2.cell? (O w 0)=some (GI ra bn rc):=hx.o6 j7;have X1:=I (A8.trans hx);go_wp2_with fail;refine i7 Ju λw3 hx=>?_;have X3:=I (X1.trans hx);go_wp2;go_ret;exact⟨ag (by rw[HN.o];simp),X3⟩
 have FD:((bn:Int) != (rn:Int))=true:=m9;have HF:=I (show Ib ⟨rows,basis,x⟩=false by rw[K.o,Ok Nj];rfl);go_in
 go_wp2_with fail;refine(G _).mono ?_;rintro e w1 ⟨rfl,rfl⟩;go_wp2;go_ret;exact⟨ag HF.symm,A8⟩
def JS(h:σ:=by
 exact⟨0,_,_,I j0,rfl,Nr,Qc⟩
 ):σ:=h
theorem lN(h:OT w ra rn rc ba bn bc t)(IT:rn<=1048576)(MP:bn<=1048576)(J9:∀i,i<rn->JL (t.row i)<=1048576):
 Calls prog 329 #[Oe ra rn rc ba bn bc t.A6] w λe w'=>(∃va vb vs,e=ar (.agg #[va,vb,.int .i64 t.A6])/\Fp w' w va vb vs t)/\C7 w w':=by
 obtain⟨rows,basis,x⟩:=t;have B8:=(C7.alloc w (de ra rn rc ba bn bc x)).trans (C7.alloc _ (QD #[GI none 0 0,GI none 0 0,.int .i64 0] 151));have⟨W,K⟩:=e9 ((w.alloc (de ra rn rc ba bn bc x)).alloc (QD #[GI none 0 0,GI none 0 0,.int .i64 0] 151));rw[<-K]at B8;have A8:=I B8;have H:=I (h.ext B8);have Eh:=h.rows.r8;have FZ:=h.rows.r9;have Ft:=I h.rows.hlen;have Fq:=I J9;have p0:W.cell? ⟨w,0,none⟩=some (GI ra rn rc):=by rw[K];simp
 have p1:W.cell? ⟨w,1,none⟩=some (GI ba bn bc):=by rw[K];simp
 have p2:W.cell? ⟨w,2,none⟩=some (.int .i64 x):=by rw[K];simp
 have EB:=I (show W.heap[w.heap.size+1]?=some (QD #[GI none 0 0,GI none 0 0,.int .i64 0] 151 (0,0))by rw[K];exact IO j7);have IH:=I (show W.heap.size=w.heap.size+1+1 by rw[K];simp);clear h B8 J9;show Calls _ _ #[Oe ra rn rc ba bn bc x] w _;go_in
 go_upto_region 1 with fail;rw[<-K];clear K
 go_cut [3] (λs wx=>∃(g:Nat) (Z:l9) (G c3:Nat),s=aP (some ⟨g,0,none⟩)/\b9 (JN wx W g (GI none 0 0) (GI Z G c3) x [] [] basis)/\b9 (C7 W wx))
 case first =>
  have o7:=C7.drew W;have D0:C7 W (W.alloc (QD #[GI none 0 0,GI none 0 0,.int .i64 0] 151)).drew:=WU.trans cn;have o8:=I λw' (h:C7 W w')=>TX (h.o6 p0) (TX (h.o6 p1) (TX (h.o6 p2) h))
  go_region_held3 (λw'=>w'.cell? ⟨w,0,none⟩=some (GI ra rn rc)/\w'.cell? ⟨w,1,none⟩=some (GI ba bn bc)/\w'.cell? ⟨w,2,none⟩=some (.int .i64 x)/\C7 W w')
   (first
     | with_reducible exact o8.o _ o7
     | with_reducible exact o8.o _ D0
     | with_reducible exact o8.o _ (o7.trans WU)
     | with_reducible exact o8.o _ (((o7.setCell (i8 _) _).setCell (i8 _) _).setCell (i8 _) _))
   (first
     | ((with_reducible refine(jI (H.o.ext Mt).basis j0).mono ?_)
        rintro e w3 ⟨v3,rfl,EV,B5⟩;obtain⟨Z,G,c3,rfl,LD⟩:=EV.var
        first|(
           have E:w3.heap[W.heap.size]?=some (QD #[GI none 0 0,GI none 0 0,.int .i64 0] 151 (0,0)):=C7.blk B5 (show(W.alloc (QD #[GI none 0 0,GI none 0 0,.int .i64 0] 151)).drew.heap[W.heap.size]?=_ from vC W _);have IX:=aw E;have IW:=aI E;have b2_:=aJ E;have bf_:=dZ E;have Ko:=I E;clear E)|skip
        have o7:C7 W w3:=by first|with_reducible exact o7.trans B5|with_reducible exact D0.trans B5
        have FB:=o7.size))
  all_goals
   go_wp2;go_meet
  ·exact⟨_,Z,G,c3,rfl,I (JN.new EV (i8 _) FB),I (o7.trans WU)⟩
  exact⟨_,Z,G,c3,rfl,I (JN.ZN Ko.o EV D0.size (i8 _)),I (((o7.setCell (i8 _) _).setCell (i8 _) _).setCell (i8 _) _)⟩
 obtain⟨g,Z,G,c3,rfl,Nr,Qc⟩:=hcut;replace p0:=Qc.o6 p0;clear p1 p2;go_wp2
 go_loopg [15] rn (λgk ii wr=>∃(k:Nat) (va:arQ) (vs:List arQ),b9 (gk+k=rn)/\ii=.int .i64 (k:Int)/\b9 (JN wr W g va (GI Z G c3) x vs (rows.take k) basis)/\b9 (C7 W wr))
 ·exact JS
 obtain⟨k,va,vs,HK,rfl,T,HX⟩:=hrel;clear p0;by_cases hlt:k<rn
 ·have⟨zb,ED,za,zn,zc,JA,F8,z8⟩:=(H.ext HX).rows.at hlt;subst JA;have Te:zn<=1048576:=by rw[<-z8.hlen];exact Fq.o k hlt
  have Hy:=I z8;have t0:=aw T.box;have JK:=T.lt;have hsx:=HX.size;have HVL:=I (show JL vs=k by rw[T.rows.len,k6];have h2:JL rows=rn:=Ft.o;omega);clear z8;go_upto_region 5 with fail
  go_region_law (first
   | (refine bU _ rfl (fT _ _ rfl W va vs rfl ((T.ext FV).a.ext WU) _ _ 1 rfl (by first|(simp;done)|(simp;rfl)) rfl (k8 HVL.o) QH ?_);intro v6 w6 JG Js hn6;have EX:=T.OR (FV.trans WU) Js;have c0:=aw EX;have cf:=dZ EX;obtain⟨a6,n6,c6,rfl,Ia⟩:=JG.var;have EP:=I JG;have HG6:=I Js;clear JG Js hn6 EX)
   | (go_simp;go_at_call 55;refine E9 (lX (Hy.ext cn) j0) λw5 v5 Mq Ey=>?_;obtain⟨a5,n5,c5,rfl,It⟩:=Mq.var;have FV:=I ((C7.drew wr).trans Ey);have DT:=I Mq;have KJ:=FV.size;have hg5:g<w5.heap.size:=j0;replace t0:=FV.o6 t0;clear Mq Ey))
  all_goals
   go_wp2_with fail;have Ri:=I (T.Lf (FV.trans WU) (DT.ext WU) hsx HG6.o EP);have Lw:=I ((aj ((HX.trans FV).trans WU) HG6.o (λi hi=>(T.a.lt i hi).1)).setCell (p:=⟨g,0,none⟩) T.hg (GI a6 n6 c6));refine er ?_;exact⟨k+1,_,_,I (k8 HK.o),by go_num,I (by have:=Ri.o;rw[<-fw (by have h2:rows.length=rn:=Ft.o;omega)]at this;exact this),Lw⟩
 have DV:rn=k:=k8 HK.o;subst DV;have Nn:b9 (rows.take rn=rows):=bR (wZ Ft);have Ri:=I (show JN wr W g va (GI Z G c3) x vs rows basis by have:=T.o;rw[Nn.o]at this;exact this);have t0:=aw T.box;have t1:=aI T.box;have t2:=aJ T.box;obtain⟨a7,n7,c7,rfl,My⟩:=T.a.var;have q0:=HX.blk EB.o;have r0:=aw q0;have r1:=aI q0;have r2:=aJ q0;have rf:=dZ q0;have hww:=IH.o;have hsx:=HX.size;clear q0;go_wp2;refine Fn (v:=.agg #[GI a7 n7 c7,GI Z G c3,.int .i64 x]) (by simp[results,results329,go_sem,r0,r1,r2,rf]) rfl ⟨⟨_,_,vs,rfl,?_⟩,?_⟩
 ·exact(Ri.own.FJ λk hk=>dS _ _ _ _ _ _ j0).mono j0
 exact(A8.trans HX).IM (b7 _) _ _ _
end
theorem qQ{k:Nat}(h:dT t cost k=none):∀{n:Nat},k<=n->dT t cost n=none
 | n,hn=>by
   obtain⟨d,rfl⟩:∃d,n=k+d:=⟨n-k,by omega⟩;clear hn
   induction d with
   | zero=>exact h
   | succ d ih=>show(dT t cost (k+d)).bind _=none;rw[ih];rfl
theorem UT{A B:l7}{k:o4}(h:Gu A k B=some r):JL r=JL A:=by
 unfold Gu at h;split at h
 ·exact cX h
 cases h
theorem nJ{t:Tb}{cost:l7}:∀{k:Nat} {E:l7},dT t cost k=some E->JL E=JL cost+1
 | 0,E,h=>by simp only[dT,bq]at h;rw[<-h];simp
 | k+1,E,h=>by
   simp only[dT]at h;cases e:dT t cost k with
   | none=>rw[e]at h;cases h
   | some c0=>rw[e]at h;simp only[mr]at h;rw[UT h,nJ e]
theorem iN(h:OT w ra rn rc ba bn bc t)(ok:Ib t=true):
 ∃m:Nat,t.A6=m/\m<=1000/\bn=rn/\(∀i,i<rn->JL (t.row i)=m+rn+1)/\∀i,i<rn->∃b:Nat,t.basis[i]?.getD 0=(b:Int)/\b<m+rn:=by
 have l1:=h.rows.hlen;have l2:=h.basis.hlen;unfold Ib at ok;simp only[eI,ef,gy,A4]at ok;obtain⟨⟨h1,h2⟩,h3,G,E⟩:=ok;refine⟨t.A6.toNat,by omega,by omega,by omega,λi hi=>?_,λi hi=>?_⟩
 ·have:=E _ (eN (l:=t.rows) (n:=i) j0);unfold Tb.row;rw[Id j0,Nm];omega
 have:=G _ (eN (l:=t.basis) (n:=i) j0);rw[Id j0,Nm];exact⟨t.basis[i].toNat,by omega,by omega⟩
section
variable{w:J}{ra:l9}{rn rc:Nat}{ba:l9}{bn bc:Nat}{t:Tb}
def Za(h:σ:=by
 have X1:=I (A8.trans hx);clear hx;go_wp2;refine Fn (v:=.tuple #[d6,bl false]) RP rfl ⟨⟨d6,by rw[HN.o];rfl,by rw[HN.o];exact qj⟩,X1⟩
 ):σ:=h
theorem Cp(h:OT w ra rn rc ba bn bc t)(IT:rn<=100000){ka:l9}{kn kc:Nat}{cost:l7}(hk:i6 w ka kn kc cost):
 Calls prog 310 #[Oe ra rn rc ba bn bc t.A6,GI ka kn kc] w λe w'=>(∃v,e=ar (.tuple #[v,bl (dC t cost).isSome])/\WV w' w v ((dC t cost).getD []))/\C7 w w':=by
 have HF:=I (kz (h.ext (C7.alloc w (de ra rn rc ba bn bc t.A6))) j0);have HTP:=I (λok=>iN h ok);obtain⟨rows,basis,x⟩:=t;have B8:=C7.alloc w (de ra rn rc ba bn bc x);have A8:=I B8;have H:=I (h.ext B8);have Jp:=I (hk.ext B8);have⟨Eh,FZ⟩:=h.rows.aq9;have⟨E6,Ew⟩:=h.basis.aq9;have⟨Gj,o7⟩:=hk.aq9;have Ft:=I h.rows.hlen;have S2:=I hk.hlen;have HE:=I (show dC ⟨rows,basis,x⟩ cost=if(Ib ⟨rows,basis,x⟩&&(decide ((kn:Int)=x+(rn:Int))&&FM cost))=true then dT ⟨rows,basis,x⟩ cost rn else none by
  unfold dC qS;simp only;rw[h.rows.hlen,hk.hlen])
 clear h hk B8;show Calls _ _ #[Oe ra rn rc ba bn bc x,GI ka kn kc] w _;cases Z:Ib ⟨rows,basis,x⟩
 ·rw[Z]at HF;have HN:=I (show dC ⟨rows,basis,x⟩ cost=none by rw[HE.o,Z];rfl);clear Z;go_in
  go_wp2_with fail;refine IR HF λw1 hx=>?_;exact Za
 rw[Z]at HF;have⟨m,P6,hm,Nj,Fq,I2⟩:=HTP.o Z;simp only at P6;subst P6 Nj;have hre:=I Z;replace Fq:=I Fq;replace I2:=I I2;clear Z;by_cases Fe:kn=m+bn
 ·subst Fe;have Qx:((m+bn:Nat):Int)=(m:Int)+(bn:Int):=by simp
  have hne:(((m+bn:Nat):Int) != (m:Int)+(bn:Int))=false:=j7;have HV:=I (λ(W:J) (hx:C7 (w.alloc (de ra bn rc ba bn bc (m:Int))) W)=>mi (Jp.ext hx));cases G:FM cost
  ·simp only[G]at HV;have HN:=I (show dC ⟨rows,basis,(m:Int)⟩ cost=none by rw[HE.o,hre.out,G,Qx];simp);clear G;go_in
   go_wp2_with fail;refine i7 HF λw1 X1=>?_;have c0:w1.cell? (O w 0)=some (GI ra bn rc):=X1.o6 j7;have c2:w1.cell? (O w 2)=some (U m):=X1.o6 j7;go_wp2_with fail;refine i7 (HV _ X1) λw2 hx=>?_;have X2:=I ((A8.trans X1).trans hx);go_wp2;refine Fn (v:=.tuple #[d6,bl false]) RP rfl ⟨⟨d6,by rw[HN.o];rfl,by rw[HN.o];exact qj⟩,X2⟩
  simp only[G]at HV;have HV2:b9 (cost.all z7=true):=G;have GB:=I (show dC ⟨rows,basis,(m:Int)⟩ cost=dT ⟨rows,basis,(m:Int)⟩ cost bn by rw[HE.o,hre.out,G,Qx];simp);clear G;go_in
  go_wp2_with fail;refine i7 HF λw1 hx=>?_;have c0:w1.cell? (O w 0)=some (GI ra bn rc):=hx.o6 j7;have c2:w1.cell? (O w 2)=some (U m):=hx.o6 j7;have X1:=I hx;go_wp2_with fail;refine i7 (HV _ X1) λw2 hx=>?_;have X2:=I (X1.trans hx);clear c0 c2;have HCL:=I (lX (Jp.ext X2) j0);go_wp2_with fail;refine E9 HCL λw3 v3 EV hx=>?_;obtain⟨a3,n3,p3,rfl,LK⟩:=EV.var;have X3:=I (X2.trans hx);have B9:=I (EV.mono (show w.heap.size+1<=w2.heap.size by have:=X2.size;simpa using this));clear hx EV;go_wp2_with fail;refine i7 (cO 0 _) λw4 hx=>?_;have X4:=I (X3.trans hx);have EI:=I (B9.ext hx);have TZ:w.heap.size+1<=w4.heap.size:=by have:=X4.size;simpa using this
  go_wp2_with (first
   | (at_builtin;refine Ot 0 1 EI X4 (by rw[S2.o];omega) λa5 n5 p5 w5 It X5 DT=>?_;have c0:w5.cell? (O w 0)=some (GI ra bn rc):=X5.o6 j7))
  go_loopg [6,38] bn (λgk o ii wr=>∃(k:Nat) (a1:l9) (n1 p1:Nat) (cs:l7),b9 (gk+k=bn)/\ii=U k/\o=GI a1 n1 p1/\b9 (dT ⟨rows,basis,(m:Int)⟩ cost k=some cs)/\b9 (WV wr (w+1) (GI a1 n1 p1) cs)/\b9 (C7 (w.alloc (de ra bn rc ba bn bc (m:Int))) wr))
  ·exact⟨0,_,_,_,_,I j0,rfl,rfl,I rfl,DT,X5⟩
  obtain⟨k,a1,n1,p1,cs,HK,rfl,rfl,HC,HO,HX⟩:=hrel;clear c0;by_cases E:k<bn
  ·have⟨zb,ED,za,zn,zc,JA,F8,z8⟩:=(H.ext HX).rows.at E;subst JA;have Hy:=I z8;have⟨b,NK,PJ⟩:=I2.o k E;have⟨yb,Et,KY,JC⟩:=(H.ext HX).basis.at E;subst KY;simp only[NK]at JC;have⟨xb,Nu,p,q,RE,D4,B8,A'⟩:=(Jp.ext HX).at (show b<m+bn from PJ);subst RE;have EJ:=I D4;have HBK:=I NK;have c1:wr.cell? (O w 1)=some (GI (some (O yb Et)) bn bc):=HX.o6 j7;have H7:=I (aU (p:=(p,q)) (by rw[<-EJ.o,Id (by rw[S2.o];exact PJ),Nm];exact(gy.1 HV2) _ (eN _)));have LV:-9223372036854775807<=p:=by have:=H7.2.2.1;simp only at this;omega
   have MM:p<=9223372036854775807:=by have:=H7.2.2.2;simp only at this;omega
   have Hk:=I (nJ HC);have hbl0:(b:Int)<((m+bn:Nat):Int):=j0;clear D4 NK z8;go_wp2_with fail;refine i7 (eX p q _ LV MM) λw6 hx=>?_;have X6:=I (HX.trans hx);have K:=I (px (k1:=-p) (k2:=q) ((HO.ext hx).rats) (Hy.ext hx) (by have:=(HO.o).rats.hlen;have:=Hk.o;have:=S2.o;omega));have⟨sv,Mo⟩:=e9 (Gu cs (-p,q) (rows[k]?.getD []));have F4:=I (show dT ⟨rows,basis,(m:Int)⟩ cost (k+1)=sv by
    rw[Mo];show(dT ⟨rows,basis,(m:Int)⟩ cost k).bind _=_;rw[HC.o];show Gu cs (C5 (cost[(basis[k]?.getD 0).toNat]?.getD (0,0))) (rows[k]?.getD [])=_;rw[show basis[k]?.getD 0=(b:Int)from HBK.o,gg,EJ.o];rfl)
   rw[<-Mo]at K;clear Mo;cases sv with
   | none =>
     have HN:=I (show dC ⟨rows,basis,(m:Int)⟩ cost=none by rw[GB.o];exact qQ F4.o E);go_wp2_with fail;refine PP K λw7 v7 Qv hx=>?_;have X7:=I ((A8.trans X6).trans hx);clear Qv;go_wp2;refine Fn (v:=.tuple #[d6,bl false]) RP rfl ⟨⟨d6,by rw[HN.o];rfl,by rw[HN.o];exact qj⟩,X7⟩
   | some cs2 =>
     go_wp2_with fail;refine PP K λw7 v7 Qv hx=>?_;obtain⟨a7,n7,p7,rfl,My⟩:=Qv.var;have II:b9 (WV w7 (w+1) (GI a7 n7 p7) cs2):=WV.mono Qv (by have:=X6.size;simpa using this);have X7:=I (X6.trans hx);clear Qv;go_wp2_with fail;refine er ?_;exact⟨k+1,a7,n7,p7,cs2,I (k8 HK.o),by go_num,rfl,F4,II,X7⟩
  have DV:bn=k:=k8 HK.o;subst DV;have HY:=I (show dC ⟨rows,basis,(m:Int)⟩ cost=some cs by rw[GB.o];exact HC);go_wp2;refine Fn (v:=.tuple #[GI a1 n1 p1,bl true]) RP rfl ⟨⟨GI a1 n1 p1,by rw[HY.o];rfl,by rw[HY.o];exact HO.mono (b7 _)⟩,A8.trans HX.o⟩
 have hne:((kn:Int) != (m:Int)+(bn:Int))=true:=m9;have HN:=I (show dC ⟨rows,basis,(m:Int)⟩ cost=none by rw[HE.o,Ok (by omega:¬(kn:Int)=(m:Int)+(bn:Int))];simp);go_in
 go_wp2_with fail;refine IR HF λw1 hx=>?_;have c0:w1.cell? (O w 0)=some (GI ra bn rc):=hx.o6 j7;have c2:w1.cell? (O w 2)=some (U m):=hx.o6 j7;exact Za
end
def tj(h:σ:=by
 have⟨W,hW⟩:=e9 (w.alloc (QD #[U x,U y] 56));have HX:=I (show C7 w W by rw[hW];exact WU);have c0:W.cell? (O w.heap.size 0)=some (U x):=by rw[hW];simp
 have c1:W.cell? (O w.heap.size 1)=some (U y):=by rw[hW];simp
 (try unfold f8);go_in
 go_upto_region 1 with fail;rw[<-hW];clear hW;have o7:C7 W W.drew:=C7.drew W;have D0:=o7;have o8:=I (λ(w':J) (h:C7 W w')=>(an (h.o6 c0) (an (h.o6 c1) h)))
 go_region_held3 (λw'=>w'.cell? (O w.heap.size 0)=some (U x)/\w'.cell? (O w.heap.size 1)=some (U y)/\C7 W w')
  (with_reducible exact o8.o _ o7)
  (first
    | ((with_reducible refine(qq0 0 _).mono ?_)
       rintro e w3 ⟨rfl,C6⟩;have o7:C7 W w3:=o7.trans C6;have Pf:=o7.size)
    | ((with_reducible refine(qq1 x y 0 1 _).mono ?_)
       rintro e w4 ⟨rfl,DP⟩;have o7:C7 W w4:=o7.trans DP;have SA:=o7.size))
 clear o8 D0;go_wp2;go_ret;exact⟨rfl,HX.trans o7⟩
 ):σ:=h
theorem VQ(x y:Int)(w:J):f8 327 #[EF x y] w (U (DM (x,y) (0,1))):=by
 have qq0:=@cO;have qq1:=@gH;exact tj
theorem Cg(h:JL costs<m):bQ costs m=-1:=by unfold bQ;rw[f9 j0]
theorem tY{j:Nat}(h:m<=JL costs)(E:j<m)(H:(costs.take j).all (λc=>!gD c)=true)(G:gD (costs[j]?.getD (0,0))=true):bQ costs m=j:=by
 unfold bQ;rw[f7 j0];refine fJ (d:=(0,0)) m9 (by rw[gg,Y5,ub j0];exact H) ?_;rw[gg,XD,f9 E];exact G
theorem ps(h:m<=JL costs)(E:(costs.take m).all (λc=>!gD c)=true):bQ costs m=-1:=by
 unfold bQ;rw[f7 j0,gg];exact eD E
theorem pr{j:Nat}{c:o4}(E:j<JL costs)(hc:costs[j]?.getD (0,0)=c)(H:(costs.take j).all (λc=>!gD c)=true)(G:gD c=false):(costs.take (j+1)).all (λc=>!gD c)=true:=by
 rw[es E,tn,H,hc];simp[G]
def S6(h:σ:=by
 (try unfold f8);go_in
 go_wp2
 go_loopg [7] m (λgk ii wr=>∃k:Nat,b9 (gk+k=m)/\ii=U k/\b9 ((costs.take k).all (λc=>!gD c)=true)/\b9 (C7 (w.alloc (de ra rn rc ba bn bc x)) wr))
 ·exact⟨0,I j0,rfl,I rfl,I WF⟩
 case round =>
  obtain⟨k,HK,rfl,HA,X1⟩:=hrel;by_cases hlt:k<m
  ·have DV:k<n:=by omega
   have⟨zb,ED,p,q,JA,D4,F8,Li⟩:=(H.ext X1).at DV;subst JA;have EJ:=I D4;have HS:=I (qq0 p q wr);have⟨sg,J7⟩:=e9 (DM (p,q) (0,1));have K8:=I (show gD (p,q)=decide (sg<0)by rw[J7];rfl);rw[<-J7]at HS;clear D4 J7;by_cases Ks:sg<0
   ·have HF:=I (show bQ costs m=k from tY Ym hlt HA.o (by rw[EJ.o,K8.o,UV Ks]));go_wp2_with fail;refine HS.mono ?_;rintro e w3 ⟨rfl,hx⟩;have X2:=I (X1.trans hx);clear hx;go_wp2;go_ret;exact⟨au HF.symm,Ha.trans X2.o⟩
   have HT:=I (pr (by rw[HL.o];exact DV) EJ.o HA.o (by rw[K8.o,Ok Ks]));go_wp2_with fail;refine HS.mono ?_;rintro e w3 ⟨rfl,hx⟩;have X2:=I (X1.trans hx);clear hx;go_wp2_with fail;refine er ?_;exact⟨k+1,I (k8 HK.o),by go_num,HT,X2⟩
  have Iq:m=k:=by have:=HK.o;omega
  subst Iq;have HF:=I (show bQ costs m=-1 from ps Ym HA);go_wp2;go_ret;exact⟨au HF.symm,Ha.trans X1.o⟩
 ):σ:=h
theorem qd{x:Int}{cap:Nat}(h:i6 w a n cap costs)(m:Nat)(hm:m<=100000):
 f8 311 #[Oe ra rn rc ba bn bc x,GI a n cap,U m] w (U (bQ costs m)):=by
 have G:=C7.alloc w (de ra rn rc ba bn bc x);have Ha:=I G;have H:=I (h.ext G);have⟨Eu,GU⟩:=h.aq9;have HL:=I h.hlen;clear h G;by_cases E:n<m
 ·have K:b9 (bQ costs m=-1):=Cg (by rw[HL.o];exact E);have LW:(m:Int) > (n:Int):=by omega
  unfold f8;go_in
  go_wp2;go_ret;exact⟨au K.symm,Ha⟩
 have hle:¬(m:Int) > (n:Int):=j0;have qq0:=@VQ;exact S6
