import Derived.Test.YtooiaklfmodcbaaGreatDoorRtAllG47
set_option linter.all false
set_option maxHeartbeats 6000000
set_option maxRecDepth 100000
namespace Go.Proofs.YtooiaklfmodcbaaGreatDoor
open Ending renaming returned->ar
open List renaming length->JL
open Obj renaming cells->QD
open Value renaming slice->GI,bool->bl,string->aE,pointer->aP
open Go.Proofs.Tryz Go.RowKit
variable{σ:Prop}
section
def Ui{P Q:Prop}(k:p9 Q)(h:p9 Q->P:=by intro k;refine lp 0 ?_;refine lp 1 ?_;refine lp 2 ?_;refine lp 3 ?_;refine lp 4 ?_;refine lp 5 ?_;refine lp 6 ?_;refine lp 7 ?_;refine lp 8 ?_;refine lp 9 ?_;refine lp 10 ?_;refine ll 11 ?_;refine lp 12 ?_;refine lp 13 ?_;refine lp 14 ?_;refine ll 15 ?_;refine lp 16 ?_;refine OJ 17 ?_;exact k.1):P:=h k
def Rp(h:σ:=by simp[results,OC,go_sem,z0,z1,z2,z3]):σ:=h
def ga(h:σ:=by rw[Fq.o];exact OL):σ:=h
def Su(h:σ:=by rw[gg,<-Fv.o];exact hs):σ:=h
def K1(h:σ:=by rw[Me.o];omega):σ:=h
def O'{P Q:Prop}(q:Q)(h:Q->P:=by intro q;go_roundg (g4-1);exact q;have:=HT.o;omega):P:=h q
def Pr{P Q:Prop}(q:Q)(h:Q->P:=by intro q;go_roundg (g3-1);exact q;have:=HK3.o;omega):P:=h q
variable{w:J}{a:l9}{n:Nat}
def Nh(P:Program)(w:J)(fid:FuncId)(ca:Array arQ)(Q:o3->Prop)(p:o3->Bool):Prop :=
 ∀(l:o3) (a:l9) (n c:Nat) (w1:J),C7 w w1->d9 w1 a n c l->Q l->Calls P fid (#[GI a n c]++ca) w1 λe w2=>e=ar (bl (p l))/\C7 w1 w2
theorem ql{cap:Nat}{L:l8}{E:FuncId}{ca:Array arQ}{Q:o3->Prop}{p:o3->Bool}(h:dB w a n cap L)(hg:NE prog E)(Z:Nh prog w E ca Q p)(H:∀k,k<n->Q (L[k]?.getD [])):
 f8 203 #[GI a n cap,.func (.func E) #[] ca] w (U (dg p L)):=by
 have⟨hn,hm⟩:=h.aq9;have HQ:=I H;clear H;have Tr:∀(args:Array arQ) (w:J),(callFunc E args).run prog w=.ok (.enter E args) w:=hg;unfold f8;go_in
 go_wp2
 go_loopw [8] (λi wr=>∃k:Nat,k<=n/\i=U k/\b9 ((L.take k).all (λx=>!p x)=true)/\C7 w wr) (λi _=>n-(intOf i).toNat)
 ·exact⟨0,gi _,rfl,I rfl,WF⟩
 obtain⟨k,hk,rfl,HA,hx⟩:=hrel;by_cases G:k<n
 ·obtain⟨b,off,a',K,c',rfl,hc,hr⟩:=(h.ext hx).at G;have HL:=I h.hlen;have HF:=I (Z (L[k]?.getD []) a' K c' wr hx hr (HQ k G));clear hr;by_cases hb:p (L[k]?.getD [])=true
  ·exact Uk
  have HB:=I hb;simp only[N8]at hb;go_wp2_with fail;refine IR HF λw2 C4=>?_;go_wp2
  go_roundw
  case rel=>exact Yo
  exact sw
 exact WJ
theorem Cs{bc c cap:Nat}{l:o3}(hb:w.cell? (O bc 0)=some (U c))(h:d9 w a n cap l)(hc:c<n):
 Calls prog 204 #[GI a n cap,aP (some (O bc 0))] w λe w'=>e=ar (bl (l[c]?.getD 0 != 0))/\w=w':=by
 obtain⟨b,off,rfl,hcc⟩:=h.at hc;have⟨r8,r9⟩:=h.aq9;clear h;go_in
 go_wp2;go_ret;exact⟨rfl,rfl⟩
theorem AE:NE prog 204:=cR func204 j8 j8
theorem vI{bc c:Nat}(hb:w.cell? (O bc 0)=some (U c))(hc:c<n):
 Nh prog w 204 #[aP (some (O bc 0))] (λl=>JL l=n) (λr=>r[c]?.getD 0 != 0):=by
 intro l a m cp w1 hx hi E;have hm:m=n:=by rw[<-hi.hlen];exact E
 exact(Cs (hx.o6 hb) hi j0).mono λe w2 ⟨G,hw⟩=>⟨G,hw▸WF⟩
theorem Z6{M:l8}{c d:Nat}(hd:d<=JL M):dg (λr:o3=>r[c]?.getD 0 != 0) (M.drop d)=if Fl M c d<JL M then((Fl M c d-d:Nat):Int) else -1:=by
 unfold dg Fl;cases E:(M.drop d).findIdx? (λr=>r[c]?.getD 0 != 0)with
 | none=>simp
 | some k =>
   rw[Tp]at E;obtain⟨G,_⟩:=E;rw[Lr]at G;simp only;rw[f9 j0];congr 1;omega
theorem Xf{B:Int}:∀(l:o3) (g:Int),0<=g->g<=B->(∀x∈l,-B<=x/\x<=B)->0<=l.foldl gI g/\l.foldl gI g<=B
 | [],g,G,E,_=>⟨G,E⟩
 | x::l,g,G,E,h=>by
   have hx:=h x j7;have K:gI g x<=B:=by
    by_cases hz:x=0
    ·subst hz;rw[sS];omega
    have:=SL g hz;omega
   exact Xf l (gI g x) (ud g x) K λy H=>h y (by simp[H])
theorem Xu(n:Nat)(s:Int){b:Bool}(h:Gd s (n:Int)=b):G8 n s++[D3 b]=G8 (n+1) s:=by rw[<-h];exact tU n s
theorem VV{n:Int}{m cap:Nat}{l:o3}(h:d9 w a m cap l)(hl:∀k:Nat,l[k]?.getD 0<=9223372036854775807)(hm:m<=1048576):
 f8 133 #[.int .i64 n,.slice a m cap] w (.int .i64 (gu n l)):=by
 have WM:=h.r8;have WN:=h.r9;have HL:=I h.hlen;have HI:=I h;have FN:=I hl;clear h hl;cases D7:A4 n 1 5
 ·have HN:=I (show gu n l=0 by unfold gu;rw[D7];rfl);have HW:=I (av n 1 5 w);rw[D7]at HW;clear D7;have qq0:=@au;exact my
 obtain⟨E,rfl⟩:∃k:Nat,n=k:=⟨n.toNat,by simp only[A4,eI,ef]at D7;omega⟩;have h15:1<=E/\E<=5:=by simp only[A4,eI,ef]at D7;omega
 obtain⟨h1,h5⟩:=h15;have HN:=I (show gu (E:Int) l=((RK cJ (l.map (G8 E)) E).2:Int)by unfold gu;rw[f9 D7];rfl);have HW:=I (av E 1 5 w);rw[D7]at HW;have HO:=I (DQ.D2 w w.heap.size _ rfl (i8 _));clear D7;(try unfold f8);go_in
 go_wp2_with fail;refine HW.o.mono ?_;rintro e w1 ⟨rfl,rfl⟩;go_wp2_with fail
 go_loopg [5,27] m (λgk out i wr=>∃(k G Z p1:Nat) (vs:List arQ),b9 (gk+k=m)/\i=.int .i64 (k:Int)/\out=.slice (some ⟨G,0,none⟩) Z p1/\b9 (DQ wr w.heap.size (.slice (some ⟨G,0,none⟩) Z p1) vs)/\b9 (bF wr w.heap.size vs ((l.take k).map (G8 E)))/\b9 (C7 w wr)/\b9 (w.heap.size<=G))
 case atStart=>exact⟨0,_,_,_,[],I j0,rfl,rfl,HO,I (bF.nil _ _),I (C7.alloc _ _),I (i8 _)⟩
 rename Nat=>g1;rename J=>y9;obtain⟨k,G,Z,p1,vs,aa,rfl,rfl,HV,HR,HX,HGW⟩:=hrel;have hsz:=HX.o.size;by_cases hlt:k<m
 ·obtain⟨b,off,ha,Ks⟩:=(HI.o.ext HX.o).at hlt;subst ha;obtain⟨s,hs⟩:=e9 (l[k]?.getD 0);rw[<-hs]at Ks;have HS:=I hs;have Jc:s<=9223372036854775807:=by rw[hs];exact FN.o k
  have HO1:=I (r'.D2 y9 y9.heap.size _ rfl (i8 _));have Mz:=I (show vs.length=k by rw[HR.o.len,dc,k6];have:=HL.o;omega);clear hs;go_wp2_with fail
  go_loopg [8,33] E (λgk row i wr=>∃(j:Nat) (a2:l9) (n2 p2:Nat),b9 (gk+j=E)/\i=.int .i64 (j:Int)/\row=.slice a2 n2 p2/\b9 (r' wr y9.heap.size (.slice a2 n2 p2) (G8 j s))/\b9 (C7 y9 wr))
  case atStart=>exact O0
  obtain⟨j,a2,n2,p2,HJ,rfl,rfl,B9,B7⟩:=hrel;have KI:=B7.o.size;by_cases Ii:j<E
  ·have HLJ:=I (mb j s);have Sh:=I (gZ s (j:Int) wr Jc);cases T6:Gd s (j:Int)
   all_goals
    rw[T6]at Sh;have HDS:=I (Xu j s T6);clear T6;go_wp2_with fail;refine cP Sh ?_
   ·go_wp2_with (first
     | (at_builtin;refine Ub 0 B9 B7 OV λa5 n5 p5 w5 It X5 DT=>?_))
    exact W4
   go_wp2_with (first
    | (at_builtin;refine Ub 1 B9 B7 OV λa5 n5 p5 w5 It X5 DT=>?_))
   exact W4
  have QA:j=E:=k8 HJ.o;subst QA
  go_wp2_with (first
   | (at_builtin;refine eY rfl _ _ rfl w.heap.size (.slice (some ⟨G,0,none⟩) Z p1) vs rfl ((HV.o.ext B7.o).ext (C7.alloc _ _)) _ _ 1 rfl N3 rfl (k8 Mz.o) m9 ?_;intro v6 w6 ho hg r7;obtain⟨a6,n6,p6,rfl,Ia⟩:=ho.var;obtain⟨G6,rfl,hG6,_⟩:=ho.cell (k:=0) (by rw[<-ho.len];simp);have EP:=I ho;have Po:=I (((HR.o.snoc B7.o B9.o hsz).ext (C7.alloc _ _)).Gx ((HV.o.ext B7.o).ext (C7.alloc _ _)) hg);have X6:=I (aj ((HX.o.trans B7.o).trans (C7.alloc _ _)) hg (λj hj=>(HV.o.lt j hj).1));have HG6:=I hG6;clear ho hg r7 hG6))
  have HK:=aa;refine kf ?_;exact⟨k+1,G6,n6,p6,_,I (k8 aa.o),by go_num,rfl,EP,I Tq,X6,HG6⟩
 have Iq:k=m:=k8 aa.o;subst Iq;have HT:=I (show l.take k=l from bR b6);have FT:Z=k:=by rw[<-HV.o.len,HR.o.len,HT.o,dc,HL.o]
 subst FT;have Uk:=I (show Io y9 w.heap.size (some ⟨G,0,none⟩) Z p1 vs (l.map (G8 E))from⟨HV.o,by have:=HR.o;rw[HT.o]at this;exact this⟩);obtain⟨M,hM⟩:=e9 (l.map (G8 E));have HGD0:=I (show p7 E 1 M by rw[hM];exact mh E l);rw[<-hM]at Uk HN;have Oa:=I Uk.o.len;have hcp1:=Uk.o.cap.1;have hcp2:=Uk.o.cap.2;have hGW:=HGW.o;clear hM;go_wp2_with fail
 go_loopg [11,50] E (λgk dn cc wr=>∃(c d:Nat) (vs:List arQ) (K:l8),b9 (gk+c=E)/\cc=.int .i64 (c:Int)/\dn=.int .i64 (d:Int)/\b9 (RK cJ M c=(K,d))/\b9 (Io wr w.heap.size (some ⟨G,0,none⟩) Z p1 vs K)/\b9 (C7 w wr))
 case atStart=>exact⟨0,0,vs,M,I j0,rfl,rfl,I rfl,Uk,HX⟩
 rename Nat=>g3;rename J=>wr3;obtain⟨c,d,vs,K,HK3,rfl,rfl,abg,HM,B7⟩:=hrel;by_cases Mu:c<E
 ·have DL:=kl sF HGD0.o c j0;rw[abg.o]at DL;obtain⟨QB,hKl,YV,NH⟩:=DL;simp only at QB hKl YV NH;have Zi:=I NH;have FP:=I (show K.length=Z by rw[hKl,Oa.o]);rw[Oa.o]at YV;obtain⟨P,hP⟩:=e9 (Fl K c d);have HP:=I hP;have hpb:=zL K c (d:=d) p8;rw[<-hP,FP.o]at hpb;obtain⟨hdP,hPN⟩:=hpb;have adg:=B7.o.size;have RU:(wr3.alloc (.cells #[.int .i64 (c:Int)] 3)).cell? ⟨wr3.heap.size,0,none⟩=some (.int .i64 (c:Int)):=by simp
  have PV:=I (ql ((HM.o.ext (C7.alloc wr3 (.cells #[.int .i64 (c:Int)] 3))).Kq.RY YV) AE (vI RU Mu) (by
   intro k hk;rw[XJ];exact(Zi.o (d+k) S3).1))
  rw[Z6 p8,<-hP,FP.o]at PV;clear hKl NH hP;by_cases MR:P<Z
  ·rw[f9 MR]at PV;obtain⟨q,hq⟩:=e9 (P-d);rw[<-hq]at PV;have HQ:=I (show P=d+q by omega);clear hq;have Hu:d<Z:=by omega
   rw[f7 (show¬p1=d by omega)]at PV;go_wp2_with fail
   (with_reducible refine PV.o.mono ?_)
   rintro e w5 ⟨rfl,Ey⟩;have FV:=I Ey;have Jo:=I ((HM.o.ext (C7.alloc wr3 (.cells #[.int .i64 (c:Int)] 3))).ext Ey);have EC:=I (show w5.heap[wr3.heap.size]?=some (.cells #[.int .i64 (c:Int)] 3 (0,0))from(Ey.block _ j7).trans (vC wr3 _));have hX5w:=(B7.o.trans (C7.alloc _ _)).trans Ey;have Ha:=I hX5w;have KJ:=Ey.size;rw[O6]at KJ;clear Ey hX5w RU;obtain⟨gp,cp,hvp,RT,hop,hnp,hbp,hgpl,hncp,hcpm⟩:=Jo.o.row MR (Zi.o P (by rw[FP.o];exact MR)).1 h1;obtain⟨gd,cd,YM,hcd,hod,hnd,I5,hgdl,hncd,hcdm⟩:=Jo.o.row Hu (Zi.o d (by rw[FP.o];exact Hu)).1 h1;obtain⟨G',Ij,MQ,Tv,JW⟩:=Jo.o.outer j0;simp only[bq,H4,E5]at Ij;subst Ij;have Pj:=JW d;have T7:=JW P;have Kt:=fq (M:=K) (c:=c) (d:=d) (by rw[<-HP.o,FP.o];exact MR);rw[<-HP.o]at Kt;have Mn:=Jo.o.swap Hu MR;rw[hvp,YM]at Mn;obtain⟨M1,Tu⟩:=e9 (BB K d P);obtain⟨vs1,Qs⟩:=e9 (Rr vs d P);have Sj:=I (show p7 E (Rf d) M1 by rw[Tu];exact kt Zi.o (by rw[FP.o];exact Hu) (by rw[FP.o];exact MR));have Me:=I (show M1.length=Z by rw[Tu,dV,FP.o]);have N6:=I (show RK cJ M (c+1)=(GF cJ c M1 d Z,d+1)by
    show Ik cJ c (RK cJ M c)=_;rw[abg.o];unfold Ik;simp only;rw[<-HP.o,FP.o,f9 MR,Tu])
   have HVD:=I (show vs1[d]?.getD undef=.slice (some ⟨gp,0,none⟩) E cp by
    rw[Qs,lT (by rw[HM.o.GW];exact Hu) (by rw[HM.o.GW];exact MR)]
    split
    ·next e=>rw[YM,<-hvp,<-e,YM]
    rw[f9 rfl,hvp])
   have Yl:=I (show∀i,i<Z->∃g c',vs1[i]?.getD undef=.slice (some ⟨g,0,none⟩) E c'/\g<wr3.heap.size/\g≠G by
    intro i hi;rw[Qs,lT (by rw[HM.o.GW];exact Hu) (by rw[HM.o.GW];exact MR)];have key:∀i,i<Z->∃g c',vs[i]?.getD undef=.slice (some ⟨g,0,none⟩) E c'/\g<wr3.heap.size/\g≠G:=λi hi=>by
     obtain⟨g,c',k1,_,_,k2,_,k3,_⟩:=HM.o.row hi (Zi.o i (by rw[FP.o];exact hi)).1 h1;exact⟨g,c',k1,k3,k2⟩
    split
    ·exact key d Hu
    split
    ·exact key _ MR
    exact key i hi)
   rw[<-Tu,<-Qs]at Mn;have IH:=I Mn;have HGs:=I (show G<wr3.heap.size by obtain⟨G',Ij,_,h3,_⟩:=HM.o.outer j0;simp only[bq,H4,E5]at Ij;omega);have Hn:IntKind.i64.wrap ((d:Int)+(q:Int))=(P:Int):=by have:=HQ.o;rw[mn];omega
   have E8:(d:Int)+(q:Int)=(P:Int):=k8 HQ.o;have FY:=wq (P:Int) (P:Int);clear Mn Kt hop hod hvp YM Tu Qs JW hbp I5;by_cases hq0:P=d
   case' pos =>
    have hq00:q=0:=k8 HQ.o;have Hh:=hq0.symm;subst Hh;subst hq00;have F':=RT.symm.trans hcd;simp only[bq,nP,H4,E5,aF]at F';obtain⟨rfl,rfl⟩:=F';clear hcd T7 Hn E8;go_wp2_with fail;refine cD (M:=[17,19]) (S:=(λw'=>w'.cell? ⟨G,d,none⟩=some (.slice (some ⟨gp,0,none⟩) E cp)/\True)) j8 ?_;have o9:=(show(λw':J=>w'.cell? ⟨G,d,none⟩=some (.slice (some ⟨gp,0,none⟩) E cp)/\True) w5.drew from⟨RT,trivial⟩);refine Ui ⟨?_⟩;refine mt (i:=18) (oi:=?_) (v:=?_) ?_ ?_ ?_ ?_ ?_ ?_ ?_ ?_ ?_;rotate_left 2
    ·simp only[gA,gB,gC];rfl
    ·kernel_rfl
    ·kernel_rfl
    ·kernel_rfl
    ·kernel_rfl
    ·exact λ_ _ _ h=>h
    ·exact Rw
    ·kernel_rfl
    try simp only[Act.put,sA,sB,sC]
    refine OJ 19 ?_;refine cQ j8 ?_ _
   case' neg =>
    have hne2:¬d=P:=λe=>hq0 e.symm
    go_wp2_with fail;refine cD (M:=[17,19]) (S:=(λw'=>w'.cell? ⟨G,P,none⟩=some (.slice (some ⟨gp,0,none⟩) E cp)/\w'.cell? ⟨G,d,none⟩=some (.slice (some ⟨gd,0,none⟩) E cd))) j8 ?_;have o9:=(show(λw':J=>w'.cell? ⟨G,P,none⟩=some (.slice (some ⟨gp,0,none⟩) E cp)/\w'.cell? ⟨G,d,none⟩=some (.slice (some ⟨gd,0,none⟩) E cd)) w5.drew from⟨RT,hcd⟩);refine Ui ⟨?_⟩;refine mt (i:=18) (oi:=?_) (v:=?_) ?_ ?_ ?_ ?_ ?_ ?_ ?_ ?_ ?_;rotate_left 2
    ·simp only[gA,gB,gC];rfl
    ·kernel_rfl
    ·kernel_rfl
    ·kernel_rfl
    ·kernel_rfl
    ·exact λ_ _ _ h=>h
    ·exact Rw
    ·kernel_rfl
    try simp only[Act.put,sA,sB,sC]
    refine OJ 19 ?_;refine cQ j8 ?_ _
   all_goals
    clear RT Pj Tv FY
    try clear hcd
    try clear T7
    try clear Hn E8
    try clear o9
   case' pos =>
    obtain⟨w6,GD⟩:=e9 (((w5.setCell ⟨G,d,none⟩ (.slice (some ⟨gp,0,none⟩) E cp)).setCell ⟨G,d,none⟩ (.slice (some ⟨gp,0,none⟩) E cp)).drew);rw[<-GD];have Sd:=I (show Io w6 w.heap.size (some ⟨G,0,none⟩) Z p1 vs1 M1 by rw[GD];exact IH.o.ext (C7.drew _));have FU:=I (show C7 w w6 by rw[GD];exact C7.trans ((Ha.o.setCell (p:=⟨G,d,none⟩) hGW _).setCell (p:=⟨G,d,none⟩) hGW _) (C7.drew _))
    have I':=I (show w6.heap[wr3.heap.size]?=some (.cells #[.int .i64 (c:Int)] 3 (0,0))by
     rw[GD];have hne:wr3.heap.size≠G:=k8 HGs.o;show((w5.setCell ⟨G,d,none⟩ (.slice (some ⟨gp,0,none⟩) E cp)).setCell ⟨G,d,none⟩ (.slice (some ⟨gp,0,none⟩) E cp)).heap[wr3.heap.size]?=_;rw[GE _ _ _ _ hne,GE _ _ _ _ hne];exact EC.o)
    clear GD
   case' neg =>
    obtain⟨w6,GD⟩:=e9 (((w5.setCell ⟨G,d,none⟩ (.slice (some ⟨gp,0,none⟩) E cp)).setCell ⟨G,P,none⟩ (.slice (some ⟨gd,0,none⟩) E cd)).drew);rw[<-GD];have Sd:=I (show Io w6 w.heap.size (some ⟨G,0,none⟩) Z p1 vs1 M1 by rw[GD];exact IH.o.ext (C7.drew _));have FU:=I (show C7 w w6 by rw[GD];exact C7.trans ((Ha.o.setCell (p:=⟨G,d,none⟩) hGW _).setCell (p:=⟨G,P,none⟩) hGW _) (C7.drew _))
    have I':=I (show w6.heap[wr3.heap.size]?=some (.cells #[.int .i64 (c:Int)] 3 (0,0))by
     rw[GD];have hne:wr3.heap.size≠G:=k8 HGs.o;show((w5.setCell ⟨G,d,none⟩ (.slice (some ⟨gp,0,none⟩) E cp)).setCell ⟨G,P,none⟩ (.slice (some ⟨gd,0,none⟩) E cd)).heap[wr3.heap.size]?=_;rw[GE _ _ _ _ hne,GE _ _ _ _ hne];exact EC.o)
    clear GD
   all_goals
    clear Jo;obtain⟨gp',cp',hvp,hcp6,hop,hnp,hbp,hgpl6,hncp',hcpm'⟩:=Sd.o.row Hu (Sj.o d xf).1 h1;have F':=HVD.o.symm.trans hvp;simp only[nP,bq,H4,E5,aF]at F';obtain⟨rfl,rfl⟩:=F';obtain⟨A,hA,hA'⟩:∃A:l9,(if p1=d+1 then some (⟨G,0,none⟩:Addr) else some ⟨G,d+1,none⟩)=A/\(d+1<Z->A=some ⟨G,d+1,none⟩):=⟨_,rfl,λh=>by rw[f7 j0]⟩;have HA':=I hA';have PH:d+1<=Z:=j0;clear hvp hop hnp hbp hA';go_wp2_with fail;have QT:=I (show w.heap.size<=wr3.heap.size from adg);clear hA
    go_loopg [88] (Z-(d+1)) (λgk ii wr=>∃t:Nat,b9 (gk+(d+1+t)=Z)/\ii=.int .i64 (t:Int)/\b9 (Io wr w.heap.size (some ⟨G,0,none⟩) Z p1 vs1 (GF cJ c M1 d (d+1+t)))/\b9 (C7 w wr)/\b9 (wr.heap[wr3.heap.size]?=some (.cells #[.int .i64 (c:Int)] 3 (0,0))))
    case atStart=>exact⟨0,I j0,rfl,I (by rw[RF,rS];exact Sd.o),FU,I'⟩
    rename Nat=>g4;rename J=>wr4;obtain⟨t,HT,rfl,Lc,Gm,FI⟩:=hrel;by_cases htN:d+1+t<Z
    ·obtain rfl:=HA'.o j0;have htN1:t<Z-(d+1):=by omega
     obtain⟨tt,Es⟩:=e9 (d+1+t);have Nn:=I Es;have HGR:=I (show p7 E (Rf (d+1)) (GF cJ c M1 d tt)from pZ Sj.o (iA d j0).2.2 xf λp r LC J9 h5 h6=>sF _ E c p r (iA d j0).1 LC J9 h5 h6);rw[<-Es]at Lc;have Fq:=I (show(GF cJ c M1 d tt).length=Z by rw[eC,Me.o]);obtain⟨gt,ct,RH,hct,Oi,hnt,Ni,hgtl,hnct,hctm⟩:=Lc.o.row (i:=tt) j0 (HGR.o tt fv).1 h1;obtain⟨gp',cp',hvp,hcp4,hop,hnp,hbp,hgpl4,_,_⟩:=Lc.o.row Hu (HGR.o d (by rw[Fq.o];exact Hu)).1 h1;have F':=HVD.o.symm.trans hvp;simp only[nP,bq,H4,E5,aF]at F';obtain⟨rfl,rfl⟩:=F';have HVT:=I RH;have N9:=I (show gt<wr3.heap.size/\gt≠G by
      obtain⟨g,c',k1,k2,k3⟩:=Yl.o tt j0;rw[RH]at k1;simp only[nP,bq,H4,E5,aF]at k1;obtain⟨rfl,_⟩:=k1;exact⟨k2,k3⟩)
     have HAP:=I (show gt≠gp from λe=>Lc.o.rows.apart' (i:=d) (j:=tt) j0 (by rw[Fq.o];exact Hu) fv (by rw[hvp];rfl) (by rw[RH,e];rfl));rw[iW _ _ _ _ _ _ K1 j0]at Oi;rw[iW _ _ _ _ _ _ xf j0]at hop;obtain⟨r,hr⟩:=e9 (M1[tt]?.getD []);obtain⟨p,hp⟩:=e9 (M1[d]?.getD []);rw[<-hr]at Oi;rw[<-hp]at hop;have Jv:=I (Sj.o tt K1);have PY:=I (Sj.o d xf);rw[<-hr]at Jv;rw[<-hp]at PY;have HOT:=I Oi;have LI:=I hop;have Fv:=I hr;have Jn:=I hp;obtain⟨b,off,he,D1⟩:=Oi.ints.at Mu;simp only[bq,H4,E5]at he;obtain⟨rfl,rfl⟩:=he;rw[hI]at D1;obtain⟨rc,LU⟩:=e9 (r[c]?.getD 0);obtain⟨pc,YQ⟩:=e9 (p[c]?.getD 0);rw[<-LU]at D1;have QL:=I LU;have Pp:=I YQ;have Ts:=Lo FI.o;have HIDT:=I (show d+1+t=tt from Es.symm);rw[Es]at hct;clear RH hvp Oi hop hr hp LU YQ Es hcp4;by_cases hz:rc=0
     ·have Lx:=I (De (e:=cJ) (c:=c) (M:=M1) (d:=d) (t:=tt) (k8 Nn.o) (by rw[Me.o];have:=Nn.o;omega) (by unfold cJ;rw[<-Fv.o,<-Jn.o,<-QL.o,f9 hz]));subst hz;go_wp2_with fail;refine O' ?_;exact⟨t+1,I (k8 HT.o),by go_num,I (by rw[show d+1+(t+1)=tt+1 by have:=Nn.o;omega,<-Lx.o];exact Lc.o),Gm,FI⟩
     have hzb:(rc != 0)=true:=by simpa using hz
     have hzb':(rc == 0)=false:=by simpa using hz
     obtain⟨mm,Q8⟩:=e9 (Ed c p r);obtain⟨Mt,WY⟩:=e9 (GF cJ c M1 d tt);have OL:tt<Z:=k8 Nn.o;have hdt:d<tt:=k8 Nn.o;rw[<-WY]at Lc Fq;have HML:=I (show mm.length=r.length by rw[Q8,fC]);have HMtr:=I (show Mt[tt]?.getD []=r by rw[WY,iW _ _ _ _ _ _ K1 j0,Fv.o]);have HMtp:=I (show Mt[d]?.getD []=p by rw[WY,iW _ _ _ _ _ _ K1 j0,Jn.o]);have HBM:=I (show∀j:Nat,-2147483648<=mm[j]?.getD 0/\mm[j]?.getD 0<=2147483648 by
      intro j;rw[Q8];have h3:=(iA d j0).2.1;have h4:=(iA d j0).1;exact xj (B:=32768) (λj=>by have:=PY.o.2 j;omega) (λj=>by have:=Jv.o.2 j;omega) j)
     have HBMx:=I (show∀x∈mm,(-2147483648:Int)<=x/\x<=2147483648 by
      intro x hx;obtain⟨j,hj,rfl⟩:=Sr hx;have:=HBM.o j;rw[Id hj]at this;exact this)
     have aiH:=I (show Mt.set tt (mm.map λx=>x.tdiv (max (Jg mm) 1))=GF cJ c M1 d (tt+1)by
      rw[<-oh cJ c M1 d tt hdt (by rw[Me.o];exact OL),WY]
      congr 1;unfold cJ;rw[<-Fv.o,<-Jn.o,f7 (by rw[<-QL.o];exact hz),Q8])
     have KW:=I Q8;clear Q8 WY;go_wp2_with fail
     go_loopg [18,100] E (λgk gg jj wr=>∃(j:Nat) (gv:Int),b9 (gk+j=E)/\jj=.int .i64 (j:Int)/\gg=.int .i64 gv/\b9 (gv=(mm.take j).foldl gI 0)/\b9 (Io wr w.heap.size (some ⟨G,0,none⟩) Z p1 vs1 (Mt.set tt (J5 mm r j)))/\b9 (C7 w wr)/\b9 (wr.heap[wr3.heap.size]?=some (.cells #[.int .i64 (c:Int)] 3 (0,0))))
     case atStart=>exact⟨0,0,I j0,rfl,rfl,I rfl,I (by rw[ut,UO ga HMtr.o];exact Lc.o),Gm,FI⟩
     rename Nat=>g5;rename J=>wr5;obtain⟨j,gv,HJ,rfl,rfl,JT,Jo,Tz,Ek⟩:=hrel;have hgvb:=Xf (B:=2147483648) (mm.take j) 0 j0 j0 (λx hx=>HBMx.o x (List.mem_of_mem_take hx));rw[<-JT.o]at hgvb;by_cases Ii:j<E
     ·have Oi:=Jo.o.rows.row tt (by rw[k7,Fq.o];exact OL);rw[HVT.o,vY ga]at Oi;have hop:=Jo.o.rows.row d (by rw[k7,Fq.o];exact Hu);rw[HVD.o,sq j0,HMtp.o]at hop;obtain⟨b,off,he,hrj⟩:=Oi.ints.at Ii;simp only[bq,H4,E5]at he;obtain⟨rfl,rfl⟩:=he;rw[hI,Nm,zC HML.o Sz]at hrj;obtain⟨b,off,he,hpj⟩:=hop.ints.at Ii;simp only[bq,H4,E5]at he;obtain⟨rfl,rfl⟩:=he;rw[hI]at hpj;obtain⟨b,off,he,RL⟩:=hop.ints.at Mu;simp only[bq,H4,E5]at he;obtain⟨rfl,rfl⟩:=he;rw[hI,<-Pp.o]at RL;obtain⟨g',Ra,_,JW,_⟩:=Oi.block Ii;simp only[bq,H4,E5]at Ra;subst Ra;have hfj:=JW j;have hbc5:=Lo Ek.o;obtain⟨rj,Tj⟩:=e9 (r[j]?.getD 0);obtain⟨pj,KK⟩:=e9 (p[j]?.getD 0);rw[<-Tj]at hrj;rw[<-KK]at hpj;have h3:=(iA d j0).2.1;have E6:=iU (B:=32768) (x:=rj) (y:=pc) (k8 (Jv.o.2 j)) (k8 (Jv.o.2 j)) P1 P1;have Ew:=iU (B:=32768) (x:=rc) (y:=pj) QJ QJ (k8 (PY.o.2 j)) (k8 (PY.o.2 j));have Hn:=dk (rj*pc);have hw2:=dk (rc*pj);have E8:=dk (rj*pc-rc*pj);have HV:=I (show rj*pc-rc*pj=mm[j]?.getD 0 by rw[KW.o,ki Sz,Tj,KK,Pp.o,QL.o]);have hx18:D5 (rj*pc-rc*pj):=by unfold D5;omega
      have hg18:D5 gv:=by unfold D5;omega
      have HX18:=I hx18;have HG18:=I hg18;clear Oi hop Tj KK E6 Ew h3 hx18 hg18 JW hgvb;go_wp2_with fail
      go_still_tail 19,j8
      change wpList _ _ _ _ _ wr5.drew;go_wp2_with fail;refine IR (ky gv (rj*pc-rc*pj) _ HG18.o HX18.o) λw7 hd=>?_;have D7:=((Jo.o.ext (C7.drew wr5)).Mj OL HVT.o j (rj*pc-rc*pj)).ext hd.ext;rw[HV.o,uT ga HML.o Sz]at D7;have Hl:=I D7;have R4:=I (C7.trans (W1 (p:=⟨gt,j,none⟩) (Tz.o.trans (C7.drew wr5)) Ni (.int .i64 (rj*pc-rc*pj))) hd.ext)
      have Kn:=I (show w7.heap[wr3.heap.size]?=some (.cells #[.int .i64 (c:Int)] 3 (0,0))by
       have hne:wr3.heap.size≠gt:=k8 N9.o.1;have h0:(wr5.drew.setCell ⟨gt,j,none⟩ (.int .i64 (rj*pc-rc*pj))).heap[wr3.heap.size]?=some (.cells #[.int .i64 (c:Int)] 3 (0,0)):=by
        rw[GE _ _ _ _ hne];exact Ek.o
       exact(hd.ext.block _ (In h0)).trans h0)
      have HGV7:=I (show gI gv (rj*pc-rc*pj)=(mm.take (j+1)).foldl gI 0 by
       rw[cW (by rw[HML.o,Jv.o.1];exact Ii),Wr,<-JT.o,<-HV.o];rfl)
      clear D7 hd Hn hw2 E8;go_wp2_with fail
      go_roundg (g5-1)
      case measure=>have:=HJ.o;omega
      exact⟨j+1,_,I (k8 HJ.o),by go_num,rfl,HGV7,Hl,R4,Kn⟩
     have QA:j=E:=k8 HJ.o;have HGF:=I (show max gv 1=max (Jg mm) 1 by rw[JT.o,bR (by rw[HML.o,Jv.o.1];omega)];rfl);have HMID:=I (show J5 mm r j=mm by rw[QA,<-Jv.o.1,<-HML.o,xh HML.o]);rw[HMID.o]at Jo;subst QA;obtain⟨F,hF⟩:∃F:Int->Int,F=λx=>x.tdiv (max gv 1):=⟨_,rfl⟩
     have Qg:=I (show(mm.map F).length=mm.length by simp);have HFS:=I (show Mt.set tt (mm.map F)=GF cJ c M1 d (tt+1)by rw[hF,HGF.o];exact aiH.o);have HFF:=I hF;clear hF;by_cases Jd:1<=gv
     case' pos =>
      have HD:=I (show∀y,F y=y.tdiv gv by intro y;rw[HFF.o];simp only;congr 1;omega);have hgv':¬gv<1:=j0;have hmx1:max gv 1=gv:=j0;have Pg:(gv == 0)=false:=m9
     case' neg =>
      have hgv0:gv=0:=j0;subst hgv0;have hmx1:max (0:Int) 1=1:=j0;have HD:=I (show∀y,F y=y by intro y;rw[HFF.o];simp only;rw[show max (0:Int) 1=1 by omega,Int.tdiv_one])
     all_goals
      go_wp2_with fail
      go_loopg [131] j (λgk ii wr=>∃i:Nat,b9 (gk+i=j)/\ii=.int .i64 (i:Int)/\b9 (Io wr w.heap.size (some ⟨G,0,none⟩) Z p1 vs1 (Mt.set tt (J5 (mm.map F) mm i)))/\b9 (C7 w wr)/\b9 (wr.heap[wr3.heap.size]?=some (.cells #[.int .i64 (c:Int)] 3 (0,0))))
      case atStart=>exact⟨0,I j0,rfl,I (by rw[ut];exact Jo.o),Tz,Ek⟩
      obtain⟨i,HK,rfl,abo,HX6r,HB6r⟩:=hrel;by_cases Q9:i<j
      ·have Oi:=abo.o.rows.row tt (by rw[k7,Fq.o];exact OL);rw[HVT.o,vY ga,Nm]at Oi;have hlen:=Oi.ints.hlen;obtain⟨b,off,he,hyi⟩:=Oi.ints.at Q9;simp only[bq,H4,E5]at he;obtain⟨rfl,rfl⟩:=he;rw[hI,zC Qg.o (by rw[HML.o,Jv.o.1];exact Q9)]at hyi;obtain⟨g',Ra,_,JW,_⟩:=Oi.block Q9;simp only[bq,H4,E5]at Ra;subst Ra;have hfi:=JW i;obtain⟨yv,JB⟩:=e9 (mm[i]?.getD 0);rw[<-JB]at hyi;have Na:=HBM.o i;rw[<-JB]at Na;obtain⟨hyb1,hyb2⟩:=Na;have Zk:=I (show F yv=(mm.map F)[i]?.getD 0 by rw[JB];simp[HML.o,Jv.o.1,Q9]);rw[HD.o]at Zk;have hw0:∀g:Int,IntKind.i64.wrap (yv.tdiv g)=yv.tdiv g:=by
        intro g;have h2:(yv.tdiv g).natAbs<=yv.natAbs:=by rw[Uj];exact Yr _ _
        rw[mn];omega
       first|have hw:=hw0 gv|skip
       clear Oi JW JB hlen hw0;go_wp2_with fail
       go_roundg (gk-1)
       case measure=>exact cS
       refine⟨i+1,I (k8 HK.o),by go_num,I ?_,I (W1 (p:=⟨gt,i,none⟩) HX6r.o Ni _),I ?_⟩
       ·rw[<-uT (m:=mm.map F) (r:=mm) (j:=i) ga Qg.o (by rw[HML.o,Jv.o.1];exact Q9),<-Zk.o];exact abo.o.Mj OL HVT.o i _
       have hne:wr3.heap.size≠gt:=k8 N9.o.1;rw[GE _ _ _ _ hne];exact HB6r.o
      have hij':i=j:=k8 HK.o;have HMF:=I (show Mt.set tt (J5 (mm.map F) mm i)=GF cJ c M1 d (tt+1)by
       rw[<-HFS.o,show i=(mm.map F).length by rw[Qg.o,HML.o,Jv.o.1];exact hij',xh Qg.o])
      rw[HMF.o]at abo;subst hij';go_wp2_with fail;refine O' ?_;exact⟨t+1,I (k8 HT.o),by go_num,I (by rw[show d+1+(t+1)=tt+1 by have:=Nn.o;omega];exact abo.o),HX6r,HB6r⟩
    have Wg:d+1+t=Z:=k8 HT.o;have LH:=I Wg;have htE2:t=Z-(d+1):=j0;rw[Wg]at Lc;clear Wg;have qq0:=@Pr;exact Ki
  rw[f7 MR]at PV;have N6:=I (show RK cJ M (c+1)=(K,d)by
   show Ik cJ c (RK cJ M c)=_;rw[abg.o];unfold Ik;simp only;rw[<-HP.o,FP.o,f7 MR])
  by_cases hpd:p1=d
  case' pos=>subst hpd;rw[f9 rfl,show Z-p1=0 by omega,Y']at PV
  case' neg=>rw[f7 hpd]at PV
  all_goals
   go_wp2_with fail
   (with_reducible refine PV.o.mono ?_)
   rintro e w5 ⟨rfl,Ey⟩;have FV:=I ((B7.o.trans (C7.alloc _ _)).trans Ey);have Jo:=I ((HM.o.ext (C7.alloc wr3 (.cells #[.int .i64 (c:Int)] 3))).ext Ey);clear Ey RU;go_wp2_with fail;refine Pr ?_;exact⟨c+1,_,vs,K,I (k8 HK3.o),by go_num,rfl,N6,Jo,FV⟩
 have PI:c=E:=k8 HK3.o;subst PI;go_wp2_with fail;go_ret;exact⟨au (by rw[HN.o,abg.o]),B7.o⟩
end
section
def r'.VD(w:J)(base:Nat)(x:Int)(hb:base<=w.heap.size):r' (w.alloc (QD #[U x] 3)) base (EQ w 1 1) [x] :=
 wA w #[U x] 1 hb (by simp[maxLen]) rfl
def WV.ZZ(w:J)(base:Nat)(x y:Int)(hb:base<=w.heap.size):WV (w.alloc (QD #[U x,U y] 56)) base (EQ w 1 1) [(x,y)] :=
 ⟨by simp[Fw],.inr ⟨w.heap.size,1,_,rfl,hb,vC w _,i8 _,by decide,rfl,by simp[Fw]⟩⟩
def Wi(h:σ:=by
 go_wp2;refine Fn (v:=.agg #[bl false,d6,d6,U 0]) Rp rfl ⟨by rw[aa.o];exact iw.no _ _,HZ⟩
 ):σ:=h
def rm{w:J}{p:Int}{a:l9}{n cap:Nat}{V:o3}(h:d9 w a n cap V):
 Calls Tryz.prog 61 #[FS p a n cap] w λe w'=>iw w' w e (Iw p V)/\C7 w w':=by
 have⟨W,hW⟩:=e9 ((w.alloc (QD #[U p,GI a n cap] 31)).alloc (QD #[bl false,d6,d6,U 0] 67));have Ml:W.heap.size=w.heap.size+2:=by rw[hW];simp
 have hX:C7 w W:=by rw[hW];exact WU.trans WU
 refine z6 (show W.heap[w.heap.size+1]?=some (QD #[bl false,d6,d6,U 0] 67 (0,0))by rw[hW];exact IO j7) (show W.cell? (O w 0)=some (U p)by rw[hW];exact C7.o6 WU j7) (show W.cell? (O w 1)=some (GI a n cap)by rw[hW];exact C7.o6 WU j7) (h.ext hX) hX h.hlen λDO I9 Jt HI HX HVL=>?_;refine ns (bV (p:=p) HI) (λ(w':J) (hx:C7 W w') (v0 v1 v2 v3:arQ)=>GO (ZR ((hx.block _ j0).trans DO) v0 v1 v2 v3).1) (λ(w':J) (hx:C7 W w') (v0 v1 v2 v3:arQ)=>NZ (w:=w) (r:=w.heap.size+1) (HX.trans hx) (b7 _) v0 v1 v2 v3) (λ(w':J) (hx:C7 W w') (v0 v1 v2 v3:arQ)=>(ZR ((hx.block (w+1) j0).trans DO) v0 v1 v2 v3).2) (λ(w':J) (hx:C7 W w')=>GO ((hx.block _ j0).trans DO)) λQf Fi JU YB KV=>?_;clear h hX;cases hgo:ak p V
 ·rw[hgo]at Qf;have Hp:=I (show Iw p V=Kg.no by unfold Iw;rw[hgo];rfl);clear hgo;go_in
  go_wp2_with fail;rw[<-hW];refine IR Qf λw1 hx=>?_;have⟨q0,q1,q2,q3,qf⟩:=KV.o w1 hx;obtain⟨z0,z1,z2,z3,_⟩:=Fi.o w1 hx (bl false) d6 (d6) (U 0);have HZ:=I (JU w1 hx (bl false) d6 (d6) (U 0));clear hx hW;have qq0:=@OC;exact FO
 rw[hgo]at Qf;have⟨h1,h32,D4,Hh,JF,hV⟩:=kg hgo;generalize p.toNat=q at D4 Hh JF;have Yz:=I hgo;have FT:1<=n:=by rw[<-HVL.o];exact h1
 have GQ:n<=32:=by rw[<-HVL.o];exact h32
 have⟨g,HG⟩:=GT (bu p V);have JT:=I (λ(w':J) (hx:C7 W w')=>iE (p:=p) (HI.ext hx));simp only[<-HG.o]at JT;clear hgo hV h1 h32;by_cases IB:p=1
 ·subst IB;clear D4;have Hp:=I (show Iw 1 V=⟨true,[(g,1)],[],0⟩by unfold Iw;rw[f9 Yz.o,f9 j9,<-HG.o]);go_in
  go_wp2_with fail;rw[<-hW];refine i7 Qf λw1 X1=>?_;have c0:=X1.o6 I9.o;have c1:=X1.o6 Jt.o;clear hW;go_wp2_with fail;refine i7 (JT _ X1) λw2 C4=>?_;go_wp2_with fail;refine i7 (cO g _) λw3 B5=>?_;have DN:=C4.trans B5;have X4:=I (X1.trans (DN.trans (C7.alloc w3 (QD #[U g,U 1] 56))));have⟨q0,q1,q2,q3,qf⟩:=KV.o _ X4.o;obtain⟨z0,z1,z2,z3,_⟩:=Fi.o _ X4.o (bl true) (EQ w3 1 1) d6 (U 0);have HZ:=I (JU _ X4.o (bl true) (EQ w3 1 1) d6 (U 0));have Ou:=I (YB _ X4.o (bl true) (EQ w3 1 1) d6 (U 0));have J8:=(X1.trans DN).size;have OY:=I ((WV.ZZ w3 w g 1 j0).keep (λk hk=>Ou.o k (by simp only[Value.ownBlock,bq]at hk;omega)));clear DN c0 c1;go_wp2;refine Fn (v:=.agg #[bl true,EQ w3 1 1,d6,U 0]) Rp rfl ⟨by rw[Hp.o];exact⟨_,_,_,_,_,_,rfl,OY,A5.nil _ _ _ _⟩,HZ⟩
 subst D4;have Oh:2<=(q:Int):=j0;have hpb:((q:Int) == 1)=false:=by simp[IB]
 have Pd:=dk ((n:Int)-1);have Hp:=I (Bf Yz.o Oh);generalize Iw (q:Int) V=o at Hp⊢;have HQ:=I IB;clear IB Oh;go_in
 go_wp2_with fail;rw[<-hW];refine i7 Qf λw1 hx=>?_;have c0:=hx.o6 I9.o;have c1:=hx.o6 Jt.o;have X1:=I hx;have⟨w2,hw2⟩:=e9 (w1.alloc (QD #[bl true,d6,d6,U 0] 67));have Ew:w2.heap[w1.heap.size]?=some (QD #[bl true,d6,d6,U 0] 67 (0,0)):=by rw[hw2];exact IO rfl
 have C4:C7 w1 w2:=by rw[hw2];exact WU
 have X2:=I (hx.trans C4);have WS:=hx.size;clear hW;go_upto_region 6 with fail;rw[<-hw2];clear hw2;have d0:=C4.o6 c0;have d1:=C4.o6 c1;clear c0 c1 C4;generalize w1.heap.size=B at Ew WS⊢
 have QN:=I (show Fa W (w2.alloc (QD #[U ((n:Int)-1)] 3)) B d6 (d6) (EQ w2 1 1) [] [] (((n:Int)-1)::[].map λf:Int×Int×Int=>f.1) 0 from
  ⟨WU.blk Ew,qj,A5.nil _ _ _ _,r'.VD _ _ _ (k8 (In Ew)),X2.trans WU,WS⟩)
 clear Ew;go_wp2
 go_loopg [4] (JL (Fj V [])+1) (λgk ff wr=>∃(k:Nat) (L:k9) (pt:l7) (vp vs:arQ) (aF:l9) (nF cF:Nat),b9 (gk+k=JL (Fj V [])+1)/\ff=GI aF nF cF/\b9 (Fa W wr B vp vs (GI aF nF cF) pt L (((n:Int)-1)::L.map λf=>f.1) k)/\b9 (JL (Fj V L)+1<=gk)/\b9 (∀f∈L,f.1<=1000)/\b9 (JL L<=32*k)/\b9 (MF (q:Int) V gk pt L k=o))
 ·exact⟨0,[],[],_,_,_,_,_,I j0,rfl,QN,I (i8 _),I (λf hf=>by cases hf),I j7,Hp⟩
 rename Nat=>g1;rename J=>y9;obtain⟨k,L,pt,vp,vs,aF,nF,cF,HK,rfl,HO,Zj,FN,EW,Sb⟩:=hrel;obtain⟨aP,nP,cP,rfl,HNP⟩:=HO.pt.var;obtain⟨aS,nS,cS,rfl,Yq⟩:=HO.st.var;have HFR0:=I (show(Fj V []).length<=32 by have h1:JL (Fj V [])<=JL V-2:=eG [] (JL V-2);have h2:=HVL.o;omega);have hk33:k<=33:=by have h1:=HK.o;have h2:=HFR0.o;omega
 have hnS:nS<=1100:=by rw[<-Yq.o];have:=EW.o;omega
 have hnF:nF<=1101:=by
  have h1:=HO.fx.ints.hlen;simp only[nR,dc]at h1;have:=EW.o;omega
 have⟨rk,T4⟩:=e9 (gu (q:Int) (((n:Int)-1)::L.map λf=>f.1));have Uj:=I (λ(w':J) (hx:C7 y9 w')=>VV (n:=(q:Int)) (HO.fx.ext hx).ints (Xh (V:=V) j0 FN) j0);simp only[<-T4]at Uj;have hrle:rk<=(q:Int):=by rw[T4];exact Vf j0 _
 have HDN:=I (show fj (q:Int) V L=decide (rk=(q:Int))by rw[T4];unfold fj;rw[HVL.o]);have c0:=HO.ext.o6 I9.o;have hk:=C7.drew y9;clear T4;by_cases hdn:rk<(q:Int)
 ·have TR:=I (show fj (q:Int) V L=false by rw[HDN.o];exact Ok j0);have hdd:decide (rk<(q:Int))=true:=UV hdn;go_wp2_with fail;refine nE (S:=(λw'=>w'.cell? (O w 0)=some (U q)/\C7 y9 w')) j8 ?_ (λo9=>?_)
  ·exact⟨hk.o6 c0,hk⟩
  refine mq ⟨?_⟩;refine tk 4 ?_;refine tk 5 ?_;refine rd 3 λK hK=>?_;go_simp
  (go_at_call 133;refine IR (Uj _ hk) λw3 B5=>?_;have hk:=hk.trans B5)
  go_wp2_with fail;refine KO (an (hk.o6 c0) hk) λo9=>?_;refine tk 6 ?_;refine Pi j8 ?_ _;have B9:=I (HO.grow hk);have X3:=I B9.ext;have⟨b0,b1,b2,b3,bf⟩:=GO B9.box;have e0:=X3.o6 I9.o;have e1:=X3.o6 Jt.o;have EO:=I (Ct (p:=(q:Int)) (HI.ext X3) B9.st.QH j0);have⟨ok,Fs⟩:=GT (E0 (q:Int) V L);rw[<-Fs.o]at EO;clear hk c0 o9;go_wp2_with fail;refine EO.mono ?_;rintro e w4 ⟨Tl,DN⟩;obtain⟨la,KB,KF,lb,KA,KE,lc,Kz,KD,rfl,Om⟩:=Tl.lpc;unfold Ig;have⟨w5,Fc⟩:=e9 (w4.alloc (bT la KB KF lb KA KE lc Kz KD));have Ey:C7 w4 w5:=by rw[Fc];exact WU
  have K5:=I (DN.trans Ey);have X5:=I (X3.trans K5);go_upto_region 9 with fail;rw[<-Fc];cases ok
  ·have aa:=I (show o=Kg.no by
    rw[<-Sb.o];exact zG TR.o (λh=>by rw[<-Fs.o]at h;exact Bool.noConfusion h.1))
   have⟨q0,q1,q2,q3,qf⟩:=KV.o w5 X5.o;obtain⟨z0,z1,z2,z3,_⟩:=Fi.o w5 X5.o (bl false) d6 (d6) (U 0);have HZ:=I (JU w5 X5.o (bl false) d6 (d6) (U 0));clear Fc Ey DN Om Tl b0 b1 b2 b3 bf e0 e1;exact Wi
  have⟨E1,E2,E3⟩:=tN Fs.symm;rw[E1,E2,E3,gg]at Om;have R8:=kY (Om.ext Ey);have⟨r,Fv⟩:=GT (cV q V L);rw[show bG az (N2 q V L) (Sp q) (Mi V L)=r from Fv.o.symm]at R8;have Ff:=I R8;have t0:=aw (show w5.heap[w4.heap.size]?=some (QD #[GI la KB KF,GI lb KA KE,GI lc Kz KD] 105 (0,0))by rw[Fc];exact IO rfl);have t1:=aI (show w5.heap[w4.heap.size]?=some (QD #[GI la KB KF,GI lb KA KE,GI lc Kz KD] 105 (0,0))by rw[Fc];exact IO rfl);have t2:=aJ (show w5.heap[w4.heap.size]?=some (QD #[GI la KB KF,GI lb KA KE,GI lc Kz KD] 105 (0,0))by rw[Fc];exact IO rfl);have JP:=I K5.size;clear E1 E2 E3 R8 Fc Ey DN Om Tl b0 b1 b2 b3 bf e0 e1;go_wp2_with fail;refine Ff.mono ?_;rintro e w6 ⟨⟨xa,xn,xc,ya,yn,yc,ra,rn,rc,rfl,Ka⟩,Hg⟩;have⟨w7,Gh⟩:=e9 (w6.alloc (cZ r xa xn xc ya yn yc ra rn rc));have Hm:C7 w6 w7:=by rw[Gh];exact WU
  have K7:=I ((K5.trans Hg).trans Hm);refine Op (X3.trans K7) ((Ka.ext Hm).mono JP) (show w7.heap[w6.heap.size]?=some (cZ r xa xn xc ya yn yc ra rn rc)by rw[Gh];exact IO rfl) (show w3.heap.size<=w6.heap.size by have h1:=Hg.size;have h2:=JP.o;omega) λX7 Ft Kn QQ=>?_
  have HSZ:=I (λ(hs:r.status=1)=>show(Fj V L).length<=JL r.X/\JL r.Y=q+1/\z7 r.value=true/\∀k,k<JL r.Y->z7 (r.Y[k]?.getD (0,0))=true by
   have:=uw (p:=(q:Int)) Fs.symm Su;rw[gg,<-Fv.o]at this;exact this)
  have Yp:=I (λ(hs:r.status=1) (f:Nat)=>show MF (q:Int) V (f+1) pt L k=MF (q:Int) V f (L' q r) (ep V L r) (k+1)/\JL (Fj V (ep V L r))<JL (Fj V L) by
   have h1:=CT (f:=f) (k:=k) (pt:=pt) TR.o Fs.symm Su;have h2:=rG Fs.symm Su;rw[gg,<-Fv.o]at h1 h2;exact⟨h1,h2⟩)
  obtain⟨rs,rX,rY,rr,⟨Z,D6⟩,rp⟩:=r;unfold H8;go_upto_region 12 with fail;rw[<-Gh];clear Ka Hg Hm Gh t0 t1 t2;generalize w6.heap.size=G at Kn QQ⊢;have Tv:=In Kn.o;have⟨l0,l1,l2,l3,l4,l5,l6,lf⟩:=Ef Kn.o
  try simp only at l0 l1 l2 l3 l4 l5 l6
  by_cases hs:rs=1
  ·subst hs;have⟨TY,MH,LQ,JB⟩:=HSZ.o rfl
   try simp only at TY MH LQ JB
   have FG:=aU LQ
   try simp only at FG
   refine t8 TY MH JB λHXL MZ Ye=>?_;have Lj:q<=yn:=by have h1:=Ft.y.here.hlen;have h2:=MZ.o;(try simp only at h1);omega
   have hyc:(q:Int)<=(yc:Int):=by have h1:=Ft.y.here.r8;omega
   have S0:=I (mp (Ft.y.here.take Lj) j0 (λi=>by
    by_cases hi:i<q
    ·rw[XD,f9 hi];show -9223372036854775807<=(rY[i]?.getD (0,0)).1/\(rY[i]?.getD (0,0)).1<=9223372036854775807;have:=aU (Ye i K0);omega
    rw[XD,f7 hi];simp))
   have e0:=X7.o6 I9.o;have e1:=X7.o6 Jt.o;clear TY MH LQ JB;go_wp2_with fail;refine PP S0 λw8 v ho Ma=>?_;obtain⟨a8,n8,p8,rfl,M7⟩:=ho.var;have Mc:=I (B9.grow (K7.trans Ma));have⟨b0,b1,b2,b3,bf⟩:=GO Mc.box;refine t8 B9.lt (ho.mono (show B+1<=w7.heap.size by have h1:=B9.lt;have h2:=K7.size;omega)) ((GR.refl w3 w7).ext Ma) λJ1 HP8 Sa=>?_;have⟨w9,hw9⟩:=e9 (w8.setCell (O B 1) (GI a8 n8 p8));have Gl:=I (Mc.acT HP8);rw[<-hw9]at Gl;have R':=I (Sa.set (j:=1) J1.o (GI a8 n8 p8));rw[<-hw9]at R';clear ho;go_upto_region 15 with fail;rw[<-hw9];clear hw9 b0 b1 b2 b3 bf e0 e1;obtain⟨k1,Gj⟩:∃x:Int,x=(k:Int)+1:=⟨_,rfl⟩;have hwk:=wq ((k:Int)+1) k1
   have Zh:=I (show k1=((k+1:Nat):Int)by omega);clear Gj;have⟨b0,b1,b2,b3,bf⟩:=GO Gl.box;have⟨Nx,aab⟩:=e9 (w9.setCell (O B 3) (U k1));have H5:=I (Gl.setK (k':=k+1) Zh);rw[<-aab]at H5;have QK:=I (R'.set (j:=3) J1.o (U k1));rw[<-aab]at QK;go_upto_region 16 with fail;rw[<-aab];clear aab b0 b1 b2 b3 bf hwk;have⟨b0,b1,b2,b3,bf⟩:=GO H5.box;have e0:=H5.ext.o6 I9.o;have e1:=H5.ext.o6 Jt.o;have LD:3<=n:=by
    obtain⟨q',hq',aak,hq5',hl',_⟩:=ap Yz.o;have h4:=SO (n:=q') (k8 HQ.o) hq5';have:=HVL.o;omega
   have PW:=I (kA (q:Int) a n cap LD j0 H5.st.QH);go_wp2_with fail;refine PP PW λPc v ho OK=>?_;obtain⟨a11,m,c11,rfl,HM⟩:=ho.var;refine t8 (H5.grow OK) (QK.ext OK) (show bC L (n-2)=Fj V L by unfold Fj;rw[HVL.o]) λTH OW HFN=>?_;rw[HFN.o]at ho HM;refine ns (ho.mono (show w3.heap.size<=Nx.heap.size by have h1:=QK.size;have h2:=K7.size;omega)) (OW.on Ft.x) (OW.blk QQ.o Kn) (Nb.of (hi:=Pc.heap.size) B9.st.lt (i8 _)) (Nb.of (hi:=Pc.heap.size) B9.fx.lt (i8 _)) λabw acC PZ HOS TF=>?_;have hmx:m<=xn:=by have h1:=acC.here.hlen;have h2:=HXL.o;have h3:=HM.o;(try simp only at h1);omega
   have Wy:m<=32:=by
    exact Ns
   have aeI:=I (show(L++F7 (Fj V L) ⟨1,rX,rY,rr,(Z,D6),rp⟩ 0)=L by rw[uu,C3]);clear ho b0 b1 b2 b3 bf e0 e1 l0 l1 l2 l3 l4 l5 l6 lf;go_wp2
   go_loopg [4,67] m (λgk ff ii wr=>∃(j:Nat) (vs':arQ) (aF':l9) (nF' cF':Nat),b9 (gk+j=m)/\ff=GI aF' nF' cF'/\ii=U j/\b9 (Fa W wr B (GI a8 n8 p8) vs' (GI aF' nF' cF') ((rY.take q).map C5) (L++F7 (Fj V L) ⟨1,rX,rY,rr,(Z,D6),rp⟩ j) (((n:Int)-1)::(L++F7 (Fj V L) ⟨1,rX,rY,rr,(Z,D6),rp⟩ j).map λf=>f.1) (k+1))/\b9 (GR w3 Pc wr)/\b9 (Nb w3 Pc vs')/\b9 (Nb w3 Pc (GI aF' nF' cF')))
   ·exact⟨0,_,_,_,_,I j0,rfl,rfl,I (by rw[aeI.o];exact TH),I (GR.refl _ _),HOS,TF⟩
   obtain⟨j,vs2,aF2,nF2,cF2,HJ,rfl,rfl,Ec,GJ,aeK,TD⟩:=hrel;obtain⟨aS2,nS2,cS2,rfl,HNS2⟩:=Ec.st.var;by_cases Ln:j<m
   ·have hjx:j<xn:=by omega
    have⟨fb,NQ,hfe,WJ⟩:=(GJ.ints (i8 _) abw).ints.at Ln;subst hfe;have⟨xb,Nu,x1,x2,Tf,hxj,hxc1,hxc2⟩:=(GJ.on acC).here.at hjx;subst Tf;have⟨l0,l1,l2,l3,l4,l5,l6,lf⟩:=Ef (GJ.blk QQ.o PZ)
    try simp only at l0 l1 l2 l3 l4 l5 l6 hxj
    have⟨s,hs⟩:=e9 ((Fj V L)[j]?.getD 0);rw[<-hs]at WJ;by_cases B8:0<x1
    ·have Qe:=I (show(L++F7 (Fj V L) ⟨1,rX,rY,rr,(Z,D6),rp⟩ j)++[(s,-Z,D6)]=L++F7 (Fj V L) ⟨1,rX,rY,rr,(Z,D6),rp⟩ (j+1)by
      rw[lk,f9 (by show 0<(rX[j]?.getD (0,0)).1;rw[hxj];exact B8),<-hs,yf])
     have⟨b0,b1,b2,b3,bf⟩:=GO Ec.box;have Kw:=I (show(L++F7 (Fj V L) ⟨1,rX,rY,rr,(Z,D6),rp⟩ j).length<=2000 by
      rw[SW];have h1:=mD (Fj V L) ⟨1,rX,rY,rr,(Z,D6),rp⟩ j;have h2:=EW.o;omega)
     have QT:=I Ec.lt;clear hs;go_wp2_with fail;have B6:=C7.drew wr;have o8:=I λw' (h:C7 wr w')=>TX (h.o6 b2) (TX (h.o6 l4) (h.o6 l5));refine cD (M:=[10]) (S:=λw'=>w'.cell? (O B 2)=some (GI aS2 nS2 cS2)/\w'.cell? (O G 4)=some (U Z)/\w'.cell? (O G 5)=some (U D6)) j8 ?_;have o9:=o8.o _ B6;have⟨wd,hwd⟩:=e9 wr.drew;rw[<-hwd]at B6 o9;rw[<-hwd];clear hwd;refine oj ⟨?_⟩;refine ll 4 ?_;refine Gp 5 λK hK=>?_;go_simp;go_at_call 129;refine IR (eX Z D6 _ j0 j0) λMh Ht=>?_;have B6:C7 wr Mh:=B6.trans Ht;have Wm:=B6.size;go_wp2_with fail;refine KL (o8 _ B6) λo9=>?_
     refine lp 6 ?_;refine Gp 7 λK hK=>?_;go_simp;refine hK.out _ _ (λ_=>o8.o _ (B6.trans WU)) ?_;clear hK K
     try simp only[Act.put,sA,sB,sC]
     refine Gp 8 λK hK=>?_;refine ib G7 Tryz.M9 rfl Zf Fd _ _ j9 (B+1) (GI aS2 nS2 cS2) _ j9 (Ec.st.ext (B6.trans WU)) _ 1 1 [(s,-Z,D6)] j9 (GL.lit G7 _ _ _ 1 j9 _ j9 _ j9 j0) (k8 Kw.o) RG ?_;intro v13 TV ho hg r7;refine t8 ((hg.block B RG (λe=>by have:=(Ec.st.lt B e.symm).1;omega)).trans ((B6.trans WU).blk Ec.box)) ((GJ.ext (B6.trans WU)).grown hg aeK) (aeK.near r7 (by have h1:=GJ.size;simp;omega)) λYE OV TL=>?_;obtain⟨Y1,n13,c13,rfl,acA⟩:=ho.var;have I1:=I (Ec.ach (B6.trans WU) hg ho);have⟨c0,c1,c2,c3,cf⟩:=GO YE.o;have⟨m0,m1,m2,m3,m4,m5,m6,mf⟩:=Ef (OV.blk QQ.o PZ)
     (try simp only at m0 m1 m2 m3 m4 m5 m6)
     clear ho hg r7;refine KL (hJ c2 (hJ m4 m5)) λo9=>?_;refine lp 9 ?_;refine OJ 10 ?_;refine cQ j8 ?_ _;rw[Qe.o]at I1;have⟨w14,NB⟩:=e9 (TV.setCell (O B 2) (GI Y1 n13 c13));have PS:=I (OV.set (j:=2) J1.o (GI Y1 n13 c13));rw[<-NB]at I1 PS;go_upto_region 21 with fail;rw[<-NB];clear NB c0 c1 c2 c3 cf m0 m1 m2 m3 m4 m5 m6 mf b0 b1 b2 b3 bf l0 l1 l2 l3 l4 l5 l6 lf o9 B6;have HB14:=I I1.lt;have GK:=I (show(((n:Int)-1)::(L++F7 (Fj V L) ⟨1,rX,rY,rr,(Z,D6),rp⟩ j).map λf=>f.1).length<=2001 by rw[nR,dc];have:=Kw.o;omega)
     have HFE:=I (show(((n:Int)-1)::(L++F7 (Fj V L) ⟨1,rX,rY,rr,(Z,D6),rp⟩ j).map λf=>f.1)++[s]=((n:Int)-1)::(L++F7 (Fj V L) ⟨1,rX,rY,rr,(Z,D6),rp⟩ (j+1)).map λf=>f.1 by
      rw[<-Qe.o];exact zt _ _ (s,-Z,D6))
     go_wp2_with (first
      | (at_builtin;refine bK rfl _ _ rfl (B+1) (GI aF2 nF2 cF2) _ rfl (I1.fx.ext WU) _ 1 _ [s] rfl (K4 j7) (k8 GK.o) (by have h2:=HB14.o;simp;omega) ?_;intro v15 Jw ho hg r7;have HS15:=I ((PS.ext WU).grown hg TD);have HN15:=I (TD.near r7 (by have h1:=PS.size;simp;omega));obtain⟨a15,n15,c15,rfl,HNN15⟩:=ho.var;have Md:=I (I1.aih WU hg ho);clear ho hg r7))
     rw[HFE.o]at Md;refine vE ?_;exact⟨j+1,_,_,_,_,I (k8 HJ.o),rfl,by go_num,Md,HS15,TL,HN15⟩
    have Qe:=I (show(L++F7 (Fj V L) ⟨1,rX,rY,rr,(Z,D6),rp⟩ j)=L++F7 (Fj V L) ⟨1,rX,rY,rr,(Z,D6),rp⟩ (j+1)by
     rw[lk,f7 (by show¬0<(rX[j]?.getD (0,0)).1;rw[hxj];exact B8),C3])
    clear hs;go_wp2_with fail;refine vE ?_;exact⟨j+1,_,_,_,_,I (k8 HJ.o),rfl,by go_num,I (by rw[<-Qe.o];exact Ec),GJ,aeK,TD⟩
   have NG:j=m:=k8 HJ.o;have HE:=I (show L++F7 (Fj V L) ⟨1,rX,rY,rr,(Z,D6),rp⟩ j=ep V L ⟨1,rX,rY,rr,(Z,D6),rp⟩by unfold ep;rw[HM.o,NG]);rw[HE.o]at Ec;refine t8 (zE (V:=V) (L:=L) (r:=⟨1,rX,rY,rr,(Z,D6),rp⟩) (k:=k) (by rw[HVL.o];exact GQ) FN.o EW) (Yp trivial (g1-1)) (show g1-1+1=g1 by have:=Zj.o;omega) λH7 QO Sj=>?_;subst NG;go_wp2_with fail;refine Mm ?_;exact⟨k+1,ep V L ⟨1,rX,rY,rr,(Z,D6),rp⟩,_,_,_,_,_,_,I (by have h1:=HK.o;have h2:=Zj.o;omega),rfl,Ec,I (by have h1:=QO.2;have h2:=Zj.o;omega),I H7.1,I H7.2,I (by have h1:=QO.1;rw[Sj.o]at h1;exact h1.symm.trans Sb)⟩
  have aa:=I (show o=Kg.no by
   rw[<-Sb.o];refine zG TR.o (λh=>hs ?_);have:=h.2;rw[gg,<-Fv.o]at this;exact this)
  have Jc:(rs != 1)=true:=by simp[hs]
  have⟨q0,q1,q2,q3,qf⟩:=KV.o w7 X7.o;obtain⟨z0,z1,z2,z3,_⟩:=Fi.o w7 X7.o (bl false) d6 (d6) (U 0);have HZ:=I (JU w7 X7.o (bl false) d6 (d6) (U 0));exact Wi
 have HDT:=I (show fj (q:Int) V L=true by rw[HDN.o];exact UV j0);have hdd:decide (rk<(q:Int))=false:=Ok hdn;go_wp2_with fail;refine nE (S:=(λw'=>w'.cell? (O w 0)=some (U q)/\C7 y9 w')) j8 ?_ (λo9=>?_)
 ·exact⟨hk.o6 c0,hk⟩
 refine mq ⟨?_⟩;refine tk 4 ?_;refine tk 5 ?_;refine rd 3 λK hK=>?_;go_simp
 (go_at_call 133;refine IR (Uj _ hk) λw3 B5=>?_;have hk:=hk.trans B5)
 go_wp2_with fail;refine KO (an (hk.o6 c0) hk) λo9=>?_;refine tk 6 ?_;refine Pi j8 ?_ _;have B9:=I (HO.grow hk);have⟨b0,b1,b2,b3,bf⟩:=GO B9.box;have X3:=I B9.ext;have⟨q0,q1,q2,q3,qf⟩:=KV.o w3 X3.o;obtain⟨z0,z1,z2,z3,_⟩:=Fi.o w3 X3.o (bl true) (GI aP nP cP) (GI aS nS cS) (U k);refine t8 (JU w3 X3.o (bl true) (GI aP nP cP) (GI aS nS cS) (U k)) (YB w3 X3.o (bl true) (GI aP nP cP) (GI aS nS cS) (U k)) (show o=⟨true,pt,L,k⟩by rw[<-Sb.o];exact CS HDT) λHZ Ou HR=>?_;have OY:=I ((B9.pt.keep (λj hj=>Ou.o j (k8 ((B9.pt.lt j hj).1)))).mono (show w.heap.size<=B+1 by omega));have F4:=I ((B9.st.keep (λj hj=>Ou.o j (k8 ((B9.st.lt j hj).1)))).mono (show w.heap.size<=B+1 by omega));clear hk c0 o9;go_wp2;refine Fn (v:=.agg #[bl true,GI aP nP cP,GI aS nS cS,U k]) Rp rfl ⟨by rw[HR.o];exact⟨_,_,_,_,_,_,rfl,OY,F4⟩,HZ⟩
