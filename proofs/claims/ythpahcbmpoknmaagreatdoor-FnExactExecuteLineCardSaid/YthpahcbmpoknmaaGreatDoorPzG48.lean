import Derived.Test.YthpahcbmpoknmaaGreatDoorPzG47
import Derived.Test.YthpahcbmpoknmaaGreatDoorPzG62
import Derived.Lib.SplitLaws
set_option linter.all false
set_option maxHeartbeats 6000000
set_option maxRecDepth 100000
namespace Go.Proofs.YthpahcbmpoknmaaGreatDoor
open Ending renaming returned->atn
open List renaming length->Lp
open Obj renaming cells->SH
open Value renaming slice->FB,bool->ato,string->atr,pointer->ats
open Go.Proofs.Tryz Go.RowKit
variable{σ:Prop}
section
def U'{P Q:Prop}(k:ob Q)(h:ob Q->P:=by intro k;refine lp 0 ?_;refine lp 1 ?_;refine lp 2 ?_;refine lp 3 ?_;refine lp 4 ?_;refine lp 5 ?_;refine lp 6 ?_;refine lp 7 ?_;refine lp 8 ?_;refine lp 9 ?_;refine lp 10 ?_;refine ll 11 ?_;refine lp 12 ?_;refine lp 13 ?_;refine lp 14 ?_;refine ll 15 ?_;refine lp 16 ?_;refine Ql 17 ?_;exact k.1):P:=h k
def YZ(h:σ:=by simp[results,gn,go_sem,r0,r1,r2,rf,z0,z1,z2]<;>rfl):σ:=h
def NM(h:σ:=by simp[results,results124,go_sem,FH,FL,Hs]):σ:=h
def Y1(h:σ:=by have:=HG.o;simp;omega):σ:=h
def Zw(h:σ:=by simp[results,KH,go_sem,z0,z1,z2,z3]):σ:=h
def nv(h:σ:=by rw[GN.o];exact QJ):σ:=h
def Jr(h:σ:=by rw[Jc.o];exact Tr):σ:=h
def T3(h:σ:=by rw[eI,<-GV.o];exact hs):σ:=h
def P'(h:σ:=by rw[N1.o];omega):σ:=h
def Pd{P Q:Prop}(q:Q)(h:Q->P:=by intro q;go_roundg (g4-1);exact q;have:=HT.o;omega):P:=h q
def Q3{P Q:Prop}(q:Q)(h:Q->P:=by intro q;go_roundg (g3-1);exact q;have:=HK3.o;omega):P:=h q
variable{w:J}{a:o6}{n:Nat}
def WH(P:Program)(w:J)(fid:FuncId)(ca:Array atY)(Q:o7->Prop)(p:o7->Bool):Prop :=
 ∀(l:o7) (a:o6) (n c:Nat) (w1:J),D4 w w1->d6 w1 a n c l->Q l->Calls P fid (#[FB a n c]++ca) w1 λe w2=>e=atn (ato (p l))/\D4 w1 w2
theorem rm{cap:Nat}{L:o4}{G:FuncId}{ca:Array atY}{Q:o7->Prop}{p:o7->Bool}(h:dD w a n cap L)(hg:Rd prog G)(Z:WH prog w G ca Q p)(hQ:∀k,k<n->Q (L[k]?.getD [])):
 f9 209 #[FB a n cap,.func (.func G) #[] ca] w (U (di p L)):=by
 have⟨hn,hm⟩:=h.ath;have HQ:=I hQ;have VD:∀(args:Array atY) (w:J),(callFunc G args).run prog w=.ok (.enter G args) w:=hg;unfold f9;go_in
 go_wp2
 go_loopw [8] (λi wr=>∃k:Nat,k<=n/\i=U k/\e9 ((L.take k).all (λx=>!p x)=true)/\D4 w wr) (λi _=>n-(intOf i).toNat)
 ·exact⟨0,ef _,rfl,I rfl,So⟩
 obtain⟨k,hk,rfl,HA,hx⟩:=hrel;by_cases H:k<n
 ·obtain⟨b,off,a',K,c',rfl,hc,hr⟩:=(h.ext hx).at H;have HL:=I h.hlen;have HF:=I (Z (L[k]?.getD []) a' K c' wr hx hr (HQ k H));by_cases hb:p (L[k]?.getD [])=true
  ·exact dn
  have HB:=I hb;simp only[No]at hb;go_wp2_with rfl;refine i6 HF λw2 C9=>?_;go_wp2
  go_roundw
  case rel=>exact Ot
  exact k9
 exact mf
theorem DE{bc c cap:Nat}{l:o7}(hb:w.cell? (IM bc 0)=some (U c))(h:d6 w a n cap l)(hc:c<n):
 Calls prog 210 #[FB a n cap,ats (some (IM bc 0))] w λe w'=>e=atn (ato (l[c]?.getD 0 != 0))/\w=w':=by
 obtain⟨b,off,rfl,hcc⟩:=h.at hc;have⟨y7,y8⟩:=h.ath;go_in
 go_wp2;go_ret;exact⟨rfl,rfl⟩
theorem BF:Rd prog 210:=cE func210 k8 k8
theorem wS{bc c:Nat}(hb:w.cell? (IM bc 0)=some (U c))(hc:c<n):
 WH prog w 210 #[ats (some (IM bc 0))] (λl=>Lp l=n) (λr=>r[c]?.getD 0 != 0):=by
 intro l a m cp w1 hx hi G;have hm:m=n:=by rw[<-hi.hlen];exact G
 exact(DE (hx.o9 hb) hi O).mono λe w2 ⟨H,hw⟩=>⟨H,hw▸So⟩
theorem FR{M:o4}{c d:Nat}(hd:d<=Lp M):di (λr:o7=>r[c]?.getD 0 != 0) (M.drop d)=if GP M c d<Lp M then((GP M c d-d:Nat):Int) else -1:=by
 unfold di GP;cases G:(M.drop d).findIdx? (λr=>r[c]?.getD 0 != 0)with
 | none=>simp
 | some k =>
   rw[pb]at G;obtain⟨H,_⟩:=G;rw[C3]at H;simp only;rw[i7 O];congr 1;omega
theorem ZZ{B:Int}:∀(l:o7) (g:Int),0<=g->g<=B->(∀x∈l,-B<=x/\x<=B)->0<=l.foldl gI g/\l.foldl gI g<=B
 | [],g,H,G,_=>⟨H,G⟩
 | x::l,g,H,G,h=>by
   have hx:=h x j9;have Q:gI g x<=B:=by
    by_cases hz:x=0
    ·subst hz;rw[uc];omega
    have:=UX g hz;omega
   exact ZZ l (gI g x) (ve g x) Q λy K=>h y (by simp[K])
theorem N4(n:Nat)(s:Int){b:Bool}(h:Ia s (n:Int)=b):I9 n s++[Fv b]=I9 (n+1) s:=by rw[<-h];exact uT n s
theorem YU{n:Int}{m cap:Nat}{l:o7}(h:d6 w a m cap l)(hl:∀k:Nat,l[k]?.getD 0<=9223372036854775807)(hm:m<=1048576):
 f9 130 #[.int .i64 n,FB a m cap] w (.int .i64 (gK n l)):=by
 have ZG:=h.y7;have ZH:=h.y8;refine Fn h.hlen h hl λHL HI Hj=>?_;clear h hl;cases FA:A8 n 1 5
 ·have HN:=I (show gK n l=0 by unfold gK;rw[FA];rfl);have HW:=I (av n 1 5 w);rw[FA]at HW;clear FA;have qq0:=@au;exact SO
 obtain⟨nn,rfl⟩:∃k:Nat,n=k:=⟨n.toNat,by simp only[A8,cM,cq]at FA;omega⟩;have h15:1<=nn/\nn<=5:=by simp only[A8,cM,cq]at FA;omega
 obtain⟨h1,h5⟩:=h15;have HN:=I (show gK (nn:Int) l=((WF cO (l.map (I9 nn)) nn).2:Int)by unfold gK;rw[i7 FA];rfl);have HW:=I (av nn 1 5 w);rw[FA]at HW;have HO:=I (E8.Ft w w _ rfl (m9 _));clear FA;(try unfold f9);go_in
 go_wp2_with rfl;refine HW.mono ?_;rintro e w1 ⟨rfl,rfl⟩;go_wp2
 go_loopg [5,27] m (λgk out i wr=>∃(k G H p1:Nat) (vs:List atY),e9 (gk+k=m)/\i=.int .i64 (k:Int)/\out=FB (some ⟨G,0,none⟩) H p1/\e9 (E8 wr w (FB (some ⟨G,0,none⟩) H p1) vs)/\e9 (bG wr w vs ((l.take k).map (I9 nn)))/\e9 (D4 w wr)/\e9 (w.heap.size<=G))
 ·exact⟨0,_,_,_,[],I O,rfl,rfl,HO,I (bG.nil _ _),I ZL,I (m9 _)⟩
 rename Nat=>g1;rename J=>A1;obtain⟨k,G,H,p1,vs,aa,rfl,rfl,HV,HR,HX,HGW⟩:=hrel;have hsz:=HX.size;by_cases hlt:k<m
 ·have⟨b,off,ha,ME⟩:=(HI.ext HX).at hlt;subst ha;have⟨s,hs⟩:=j7 (l[k]?.getD 0);rw[<-hs]at ME;have HS:=I hs;have KD:s<=9223372036854775807:=by rw[hs];exact Hj.o k
  have HO1:=I (y9.Ft A1 A1 _ rfl (m9 _));have NC:=I (show Lp vs=k by rw[HR.len,b7,jt];have:=HL.o;omega);clear hs;go_wp2
  go_loopg [8,33] nn (λgk row i wr=>∃(j:Nat) (a2:o6) (n2 p2:Nat),e9 (gk+j=nn)/\i=.int .i64 (j:Int)/\row=FB a2 n2 p2/\e9 (y9 wr A1 (FB a2 n2 p2) (I9 j s))/\e9 (D4 A1 wr))
  ·exact I1
  obtain⟨j,a2,n2,p2,HJ,rfl,rfl,C8,C5⟩:=hrel;have MC:=C5.size;by_cases JK:j<nn
  ·have HLJ:=I (mW j s);have Uu:=I (il s (j:Int) wr KD);cases Wj:Ia s (j:Int)
   all_goals
    rw[Wj]at Uu;have HDS:=I (N4 j s Wj);clear Wj;go_wp2_with rfl;refine cR Uu ?_
   ·go_wp2_with (first
     | (at_builtin;refine Wp 0 C8 C5 xv λa5 n5 p5 w5 JU X5 Fj=>?_))
    exact UB
   go_wp2_with (first
    | (at_builtin;refine Wp 1 C8 C5 xv λa5 n5 p5 w5 JU X5 Fj=>?_))
   exact UB
  have SD:j=nn:=l8 HJ.o;subst SD
  go_wp2_with (first
   | (at_builtin;refine fd rfl _ _ rfl w (FB (some ⟨G,0,none⟩) H p1) vs rfl ((HV.ext C5).ext ZL) _ _ 1 rfl E5 rfl (l8 NC.o) t8 ?_;intro v6 w6 ho hg r';obtain⟨a6,n6,p6,rfl,Jy⟩:=ho.var;obtain⟨G6,rfl,hG6,_⟩:=ho.cell (k:=0) (by rw[<-ho.len];simp);have Gp:=I ho;have Ri:=I (((HR.snoc C5.o C8.o hsz).ext ZL).IA ((HV.ext C5).ext ZL) hg);have X6:=I (aj ((HX.trans C5).trans ZL) hg (λj hj=>(HV.lt j hj).1));have HG6:=I hG6;clear ho hg r' hG6))
  have HK:=aa;refine gy ?_;exact⟨k+1,G6,n6,p6,_,I (l8 aa.o),by go_num,rfl,Gp,I WD,X6,HG6⟩
 have JS:k=m:=l8 aa.o;subst JS;have HT:e9 (l.take k=l):=aP hI;have Ht:H=k:=by rw[<-HV.len,HR.len,HT.o,b7,HL.o]
 subst Ht;have Wz:e9 (JP A1 w (some ⟨G,0,none⟩) H p1 vs (l.map (I9 nn))):=I ⟨HV,by have:=HR.o;rw[HT.o]at this;exact this⟩;have⟨M,hM⟩:=j7 (l.map (I9 nn));have HGD0:=I (show mo nn 1 M by rw[hM];exact mY nn l);rw[<-hM]at Wz HN;have OW:=I Wz.len;have hcp1:=Wz.cap.1;have hcp2:=Wz.cap.2;have hGW:=HGW.o;clear hM;go_wp2
 go_loopg [11,50] nn (λgk dn cc wr=>∃(c d:Nat) (vs:List atY) (K:o4),e9 (gk+c=nn)/\cc=.int .i64 (c:Int)/\dn=.int .i64 (d:Int)/\e9 (WF cO M c=(K,d))/\e9 (JP wr w (some ⟨G,0,none⟩) H p1 vs K)/\e9 (D4 w wr))
 ·exact⟨0,0,vs,M,I O,rfl,rfl,I rfl,Wz,HX⟩
 rename Nat=>g3;rename J=>wr3;obtain⟨c,d,vs,K,HK3,rfl,rfl,adS,HM,C5⟩:=hrel;by_cases Oi:c<nn
 ·have D9:=kM tQ HGD0.o c O;rw[adS.o]at D9;obtain⟨SE,hKl,hdN,PK⟩:=D9;simp only at SE hKl hdN PK;have HGD:=I PK;have Hk:=I (show Lp K=H by rw[hKl,OW.o]);rw[OW.o]at hdN;have⟨P,hP⟩:=j7 (GP K c d);have HP:=I hP;have hpb:=AL K c (d:=d) G2;rw[<-hP,Hk.o]at hpb;obtain⟨hdP,hPN⟩:=hpb;have afS:=C5.size;have T9:(wr3.alloc (SH #[.int .i64 (c:Int)] 3)).cell? ⟨wr3,0,none⟩=some (.int .i64 (c:Int)):=by simp
  have RQ:=I (rm ((HM.ext (D4.alloc wr3 (SH #[.int .i64 (c:Int)] 3))).Mg.Uc hdN) BF (wS T9 Oi) (by
   intro k hk;rw[QL];exact(HGD (d+k) Ta).1))
  rw[FR G2,<-hP,Hk.o]at RQ;clear hKl PK hP;by_cases OI:P<H
  ·rw[i7 OI]at RQ;have⟨q,hq⟩:=j7 (P-d);rw[<-hq]at RQ;have HQ:=I (show P=d+q by omega);clear hq;have Jr:d<H:=by omega
   rw[f8 (show¬p1=d by omega)]at RQ;go_wp2_with rfl;refine Calls.mono RQ.o ?_;rintro e w5 ⟨rfl,F'⟩;have Hh:=I F';have KU:=I ((HM.ext (D4.alloc wr3 (SH #[.int .i64 (c:Int)] 3))).ext F');have Ga:e9 (w5.heap[wr3.heap.size]?=some (SH #[.int .i64 (c:Int)] 3 (0,0))):=(F'.block _ j9).trans (nE wr3 _);have hX5w:=(C5.trans ZL).trans F';have Ig:=I hX5w;have MD:=F'.size;rw[Mc]at MD;clear F' hX5w T9;have⟨gp,cp,hvp,T8,hop,hnp,hbp,hgpl,hncp,hcpm⟩:=KU.row OI (HGD P (by rw[Hk.o];exact OI)).1 h1;have⟨gd,cd,hvd,hcd,hod,hnd,Kw,hgdl,hncd,hcdm⟩:=KU.row Jr (HGD d (by rw[Hk.o];exact Jr)).1 h1;have⟨G',JL,OH,VH,KG⟩:=KU.outer O;simp only[Pi,gl,gi]at JL;subst JL;have QP:=KG d;have VB:=KG P;have Mi:=fA (M:=K) (c:=c) (d:=d) (by rw[<-HP.o,Hk.o];exact OI);rw[<-HP.o]at Mi;have Oc:=KU.swap Jr OI;rw[hvp,hvd]at Oc;have⟨M1,VG⟩:=j7 (xt K d P);have⟨vs1,Su⟩:=j7 (Ty vs d P);have Uw:=I (show mo nn (Tn d) M1 by rw[VG];exact kU HGD.o (by rw[Hk.o];exact Jr) (by rw[Hk.o];exact OI));have N1:=I (show Lp M1=H by rw[VG,dZ,Hk.o]);have Qb:=I (show WF cO M (c+1)=(II cO c M1 d H,d+1)by
    show JM cO c (WF cO M c)=_;rw[adS.o];unfold JM;simp only;rw[<-HP.o,Hk.o,i7 OI,VG])
   have HVD:=I (show vs1[d]?.getD undef=FB (some ⟨gp,0,none⟩) nn cp by
    rw[Su,mO (by rw[HM.IZ];exact Jr) (by rw[HM.IZ];exact OI)]
    split
    ·next e=>rw[hvd,<-hvp,<-e,hvd]
    rw[i7 rfl,hvp])
   have aaH:=I (show∀i,i<H->∃g c',vs1[i]?.getD undef=FB (some ⟨g,0,none⟩) nn c'/\g<wr3.heap.size/\g≠G by
    intro i hi;rw[Su,mO (by rw[HM.IZ];exact Jr) (by rw[HM.IZ];exact OI)];have key:∀i,i<H->∃g c',vs[i]?.getD undef=FB (some ⟨g,0,none⟩) nn c'/\g<wr3.heap.size/\g≠G:=λi hi=>by
     obtain⟨g,c',k1,_,_,k2,_,k3,_⟩:=HM.row hi (HGD i (by rw[Hk.o];exact hi)).1 h1;exact⟨g,c',k1,k3,k2⟩
    split
    ·exact key d Jr
    split
    ·exact key _ OI
    exact key i hi)
   rw[<-VG,<-Su]at Oc;have J':=I Oc;have HGs:=I (show G<wr3.heap.size by obtain⟨G',JL,_,h3,_⟩:=HM.outer O;simp only[Pi,gl,gi]at JL;omega);have Jl:IntKind.i64.wrap ((d:Int)+(q:Int))=(P:Int):=by have:=HQ.o;rw[j0];omega
   have Gn:(d:Int)+(q:Int)=(P:Int):=l8 HQ.o;have Hr:=qj (P:Int) (P:Int);clear Oc Mi hop hod hvp hvd VG Su KG hbp Kw;by_cases hq0:P=d
   case' pos =>
    have hq00:q=0:=l8 HQ.o;have I6:=hq0.symm;subst I6;subst hq00;have Ii:=T8.symm.trans hcd;simp only[Pi,mn,gl,gi,W2]at Ii;obtain⟨rfl,rfl⟩:=Ii;clear hcd VB Jl Gn;go_wp2_with rfl;refine cj (M:=[17,19]) (S:=(λw'=>w'.cell? ⟨G,d,none⟩=some (FB (some ⟨gp,0,none⟩) nn cp)/\True)) k8 ?_;have r9:=(show(λw':J=>w'.cell? ⟨G,d,none⟩=some (FB (some ⟨gp,0,none⟩) nn cp)/\True) w5.drew from⟨T8,trivial⟩);refine U' ⟨?_⟩;refine kq (i:=18) (oi:=?_) (v:=?_) ?_ ?_ ?_ ?_ ?_ ?_ ?_ ?_ ?_;rotate_left 2
    ·simp only[gA,gB,gC];rfl
    ·kernel_rfl
    ·kernel_rfl
    ·kernel_rfl
    ·kernel_rfl
    ·exact λ_ _ _ h=>h
    ·exact cA
    ·kernel_rfl
    try simp only[Act.put,sA,sB,sC]
    refine Ql 19 ?_;refine cU k8 ?_ _
   case' neg =>
    have af4:¬d=P:=λe=>hq0 e.symm
    go_wp2_with rfl;refine cj (M:=[17,19]) (S:=(λw'=>w'.cell? ⟨G,P,none⟩=some (FB (some ⟨gp,0,none⟩) nn cp)/\w'.cell? ⟨G,d,none⟩=some (FB (some ⟨gd,0,none⟩) nn cd))) k8 ?_;have r9:=(show(λw':J=>w'.cell? ⟨G,P,none⟩=some (FB (some ⟨gp,0,none⟩) nn cp)/\w'.cell? ⟨G,d,none⟩=some (FB (some ⟨gd,0,none⟩) nn cd)) w5.drew from⟨T8,hcd⟩);refine U' ⟨?_⟩;refine kq (i:=18) (oi:=?_) (v:=?_) ?_ ?_ ?_ ?_ ?_ ?_ ?_ ?_ ?_;rotate_left 2
    ·simp only[gA,gB,gC];rfl
    ·kernel_rfl
    ·kernel_rfl
    ·kernel_rfl
    ·kernel_rfl
    ·exact λ_ _ _ h=>h
    ·exact cA
    ·kernel_rfl
    try simp only[Act.put,sA,sB,sC]
    refine Ql 19 ?_;refine cU k8 ?_ _
   all_goals
    clear T8 QP VH Hr
    try clear hcd
    try clear VB
    try clear Jl Gn
    try clear r9
   case' pos =>
    have⟨w6,IL⟩:=j7 (((w5.setCell ⟨G,d,none⟩ (FB (some ⟨gp,0,none⟩) nn cp)).setCell ⟨G,d,none⟩ (FB (some ⟨gp,0,none⟩) nn cp)).drew);rw[<-IL];have Uq:=I (show JP w6 w (some ⟨G,0,none⟩) H p1 vs1 M1 by rw[IL];exact J'.ext fl);have Hg:=I (show D4 w w6 by rw[IL];exact D4.trans ((Ig.setCell (p:=⟨G,d,none⟩) hGW _).setCell (p:=⟨G,d,none⟩) hGW _) fl)
    have Ke:=I (show w6.heap[wr3.heap.size]?=some (SH #[.int .i64 (c:Int)] 3 (0,0))by
     rw[IL];have hne:wr3.heap.size≠G:=l8 HGs.o;show((w5.setCell ⟨G,d,none⟩ (FB (some ⟨gp,0,none⟩) nn cp)).setCell ⟨G,d,none⟩ (FB (some ⟨gp,0,none⟩) nn cp)).heap[wr3.heap.size]?=_;rw[If _ _ _ _ hne,If _ _ _ _ hne];exact Ga)
    clear IL
   case' neg =>
    have⟨w6,IL⟩:=j7 (((w5.setCell ⟨G,d,none⟩ (FB (some ⟨gp,0,none⟩) nn cp)).setCell ⟨G,P,none⟩ (FB (some ⟨gd,0,none⟩) nn cd)).drew);rw[<-IL];have Uq:=I (show JP w6 w (some ⟨G,0,none⟩) H p1 vs1 M1 by rw[IL];exact J'.ext fl);have Hg:=I (show D4 w w6 by rw[IL];exact D4.trans ((Ig.setCell (p:=⟨G,d,none⟩) hGW _).setCell (p:=⟨G,P,none⟩) hGW _) fl)
    have Ke:=I (show w6.heap[wr3.heap.size]?=some (SH #[.int .i64 (c:Int)] 3 (0,0))by
     rw[IL];have hne:wr3.heap.size≠G:=l8 HGs.o;show((w5.setCell ⟨G,d,none⟩ (FB (some ⟨gp,0,none⟩) nn cp)).setCell ⟨G,P,none⟩ (FB (some ⟨gd,0,none⟩) nn cd)).heap[wr3.heap.size]?=_;rw[If _ _ _ _ hne,If _ _ _ _ hne];exact Ga)
    clear IL
   all_goals
    clear KU;have⟨gp',cp',hvp,hcp6,hop,hnp,hbp,hgpl6,hncp',hcpm'⟩:=Uq.row Jr (Uw d Zz).1 h1;have Ii:=HVD.symm.trans hvp;simp only[mn,Pi,gl,gi,W2]at Ii;obtain⟨rfl,rfl⟩:=Ii;obtain⟨A,hA,hA'⟩:∃A:o6,(if p1=d+1 then some (⟨G,0,none⟩:Addr) else some ⟨G,d+1,none⟩)=A/\(d+1<H->A=some ⟨G,d+1,none⟩):=⟨_,rfl,λh=>by rw[f8 O]⟩;have HA':=I hA';have RA:d+1<=H:=O;clear hvp hop hnp hbp hA';go_wp2_with rfl;have Qi:e9 (w.heap.size<=wr3.heap.size):=afS;clear hA
    go_loopg [88] (H-(d+1)) (λgk ii wr=>∃t:Nat,e9 (gk+(d+1+t)=H)/\ii=.int .i64 (t:Int)/\e9 (JP wr w (some ⟨G,0,none⟩) H p1 vs1 (II cO c M1 d (d+1+t)))/\e9 (D4 w wr)/\e9 (wr.heap[wr3.heap.size]?=some (SH #[.int .i64 (c:Int)] 3 (0,0))))
    ·exact⟨0,I O,rfl,I (by rw[wA,tp];exact Uq),Hg,Ke⟩
    rename Nat=>g4;rename J=>wr4;obtain⟨t,HT,rfl,M3,Io,Hc⟩:=hrel;by_cases htN:d+1+t<H
    ·obtain rfl:=HA'.o O;have htN1:t<H-(d+1):=by omega
     have⟨Z,F2⟩:=j7 (d+1+t);have Pq:=I F2;have HGR:e9 (mo nn (Tn (d+1)) (II cO c M1 d Z)):=qT Uw.o (iN d O).2.2 Zz λp r MG Nf h5 h6=>tQ _ nn c p r (iN d O).1 MG Nf h5 h6;rw[<-F2]at M3;have GN:=I (show(II cO c M1 d Z).length=H by rw[eE,N1.o]);have⟨gt,ct,TQ,hct,Qp,hnt,Pf,hgtl,hnct,hctm⟩:=M3.row (i:=Z) O (HGR Z VM).1 h1;obtain⟨gp',cp',hvp,hcp4,hop,hnp,hbp,hgpl4,_,_⟩:=M3.row Jr (HGR d (by rw[GN.o];exact Jr)).1 h1;have Ii:=HVD.symm.trans hvp;simp only[mn,Pi,gl,gi,W2]at Ii;obtain⟨rfl,rfl⟩:=Ii;have HVT:=I TQ;have NZ:=I (show gt<wr3.heap.size/\gt≠G by
      have⟨g,c',k1,k2,k3⟩:=aaH.o Z O;rw[TQ]at k1;simp only[mn,Pi,gl,gi,W2]at k1;obtain⟨rfl,_⟩:=k1;exact⟨k2,k3⟩)
     have HAP:e9 (gt≠gp):=I λe=>M3.rows.apart' (i:=d) (j:=Z) O (by rw[GN.o];exact Jr) VM (by rw[hvp];rfl) (by rw[TQ,e];rfl);rw[jo _ _ _ _ _ _ P' O]at Qp;rw[jo _ _ _ _ _ _ Zz O]at hop;have⟨r,hr⟩:=j7 (M1[Z]?.getD []);have⟨p,hp⟩:=j7 (M1[d]?.getD []);rw[<-hr]at Qp;rw[<-hp]at hop;have Lc:=I (Uw Z P');have RV:=I (Uw d Zz);rw[<-hr]at Lc;rw[<-hp]at RV;refine Op Qp hop hr hp λHOT NA GV KT=>?_;have⟨b,off,he,Fo⟩:=Qp.ints.at Oi;simp only[Pi,gl,gi]at he;obtain⟨rfl,rfl⟩:=he;rw[fs]at Fo;have⟨rc,NI⟩:=j7 (r[c]?.getD 0);have⟨pc,hpc⟩:=j7 (p[c]?.getD 0);rw[<-NI]at Fo;have SQ:=I NI;have Rj:=I hpc;have VE:=C1 Hc.o;have HIDT:e9 (d+1+t=Z):=F2.symm;rw[F2]at hct;clear TQ hvp Qp hop hr hp NI hpc F2 hcp4;by_cases hz:rc=0
     ·have Nr:=I (ED (e:=cO) (c:=c) (M:=M1) (d:=d) (t:=Z) (l8 Pq.o) (by rw[N1.o];have:=Pq.o;omega) (by unfold cO;rw[<-GV.o,<-KT.o,<-SQ.o,i7 hz]));subst hz;go_wp2_with rfl;refine Pd ?_;exact⟨t+1,I (l8 HT.o),by go_num,I (by rw[show d+1+(t+1)=Z+1 by have:=Pq.o;omega,<-Nr.o];exact M3),Io,Hc⟩
     have hzb:(rc != 0)=true:=by simpa using hz
     have hzb':(rc == 0)=false:=by simpa using hz
     have⟨mm,QO⟩:=j7 (FK c p r);have⟨Mt,ZP⟩:=j7 (II cO c M1 d Z);have QJ:Z<H:=l8 Pq.o;have hdt:d<Z:=l8 Pq.o;rw[<-ZP]at M3 GN;have HML:=I (show Lp mm=Lp r by rw[QO,fI]);have HMtr:=I (show Mt[Z]?.getD []=r by rw[ZP,jo _ _ _ _ _ _ P' O,GV.o]);have HMtp:=I (show Mt[d]?.getD []=p by rw[ZP,jo _ _ _ _ _ _ P' O,KT.o]);have HBM:=I (show∀j:Nat,-2147483648<=mm[j]?.getD 0/\mm[j]?.getD 0<=2147483648 by
      intro j;rw[QO];have h3:=(iN d O).2.1;have h4:=(iN d O).1;exact yw (B:=32768) (λj=>by have:=RV.2 j;omega) (λj=>by have:=Lc.2 j;omega) j)
     have HBMx:=I (show∀x∈mm,(-2147483648:Int)<=x/\x<=2147483648 by
      intro x hx;obtain⟨j,hj,rfl⟩:=QR hx;have:=HBM.o j;rw[In hj]at this;exact this)
     have alv:=I (show Mt.set Z (mm.map λx=>x.tdiv (max (KJ mm) 1))=II cO c M1 d (Z+1)by
      rw[<-pf cO c M1 d Z hdt (by rw[N1.o];exact QJ),ZP]
      congr 1;unfold cO;rw[<-GV.o,<-KT.o,f8 (by rw[<-SQ.o];exact hz),QO])
     have MQ:=I QO;clear QO ZP;go_wp2
     go_loopg [18,100] nn (λgk gg jj wr=>∃(j:Nat) (gv:Int),e9 (gk+j=nn)/\jj=.int .i64 (j:Int)/\gg=.int .i64 gv/\e9 (gv=(mm.take j).foldl gI 0)/\e9 (JP wr w (some ⟨G,0,none⟩) H p1 vs1 (Mt.set Z (LN mm r j)))/\e9 (D4 w wr)/\e9 (wr.heap[wr3.heap.size]?=some (SH #[.int .i64 (c:Int)] 3 (0,0))))
     ·exact⟨0,0,I O,rfl,rfl,I rfl,I (by rw[vz,Xh nv HMtr.o];exact M3),Io,Hc⟩
     rename Nat=>g5;rename J=>wr5;obtain⟨j,gv,HJ,rfl,rfl,Lx,KU,VL,FG⟩:=hrel;have hgvb:=ZZ (B:=2147483648) (mm.take j) 0 O O (λx hx=>HBMx.o x (List.mem_of_mem_take hx));rw[<-Lx.o]at hgvb;by_cases JK:j<nn
     ·have Qp:=KU.rows.row Z (by rw[km,GN.o];exact QJ);rw[HVT.o,tu nv]at Qp;have hop:=KU.rows.row d (by rw[km,GN.o];exact Jr);rw[HVD.o,pk O,HMtp.o]at hop;have⟨b,off,he,hrj⟩:=Qp.ints.at JK;simp only[Pi,gl,gi]at he;obtain⟨rfl,rfl⟩:=he;rw[fs,NE,AC HML.o tg]at hrj;have⟨b,off,he,hpj⟩:=hop.ints.at JK;simp only[Pi,gl,gi]at he;obtain⟨rfl,rfl⟩:=he;rw[fs]at hpj;have⟨b,off,he,TT⟩:=hop.ints.at Oi;simp only[Pi,gl,gi]at he;obtain⟨rfl,rfl⟩:=he;rw[fs,<-Rj.o]at TT;obtain⟨g',Tj,_,KG,_⟩:=Qp.block JK;simp only[Pi,gl,gi]at Tj;subst Tj;have hfj:=KG j;have hbc5:=C1 FG.o;have⟨rj,Vs⟩:=j7 (r[j]?.getD 0);have⟨pj,MF⟩:=j7 (p[j]?.getD 0);rw[<-Vs]at hrj;rw[<-MF]at hpj;have h3:=(iN d O).2.1;have Gm:=jm (B:=32768) (x:=rj) (y:=pc) (l8 (Lc.2 j)) (l8 (Lc.2 j)) wz wz;have F0:=jm (B:=32768) (x:=rc) (y:=pj) QI QI (l8 (RV.2 j)) (l8 (RV.2 j));have Jl:=dc (rj*pc);have hw2:=dc (rc*pj);have Gn:=dc (rj*pc-rc*pj);have HV:=I (show rj*pc-rc*pj=mm[j]?.getD 0 by rw[MQ.o,kL tg,Vs,MF,Rj.o,SQ.o]);have hx18:Fy (rj*pc-rc*pj):=by unfold Fy;omega
      have hg18:Fy gv:=by unfold Fy;omega
      have HX18:=I hx18;have HG18:=I hg18;clear Qp hop Vs MF Gm F0 h3 hx18 hg18 KG hgvb;go_wp2_with rfl
      go_still_tail 19,k8
      change wpList _ _ _ _ _ wr5.drew;go_wp2_with rfl;refine i6 (kZ gv (rj*pc-rc*pj) _ HG18.o HX18) λw7 hd=>?_;have FA:=((KU.ext (D4.drew wr5)).N9 QJ HVT.o j (rj*pc-rc*pj)).ext hd.ext;rw[HV.o,wk nv HML.o tg]at FA;have Jj:=I FA;have RL:=I (D4.trans (kb (p:=⟨gt,j,none⟩) (VL.trans (D4.drew wr5)) Pf (.int .i64 (rj*pc-rc*pj))) hd.ext)
      have KX:=I (show w7.heap[wr3.heap.size]?=some (SH #[.int .i64 (c:Int)] 3 (0,0))by
       have hne:wr3.heap.size≠gt:=l8 NZ.1;have h0:(wr5.drew.setCell ⟨gt,j,none⟩ (.int .i64 (rj*pc-rc*pj))).heap[wr3.heap.size]?=some (SH #[.int .i64 (c:Int)] 3 (0,0)):=by
        rw[If _ _ _ _ hne];exact FG
       exact(hd.ext.block _ (IO h0)).trans h0)
      have HGV7:=I (show gI gv (rj*pc-rc*pj)=(mm.take (j+1)).foldl gI 0 by
       rw[cD (by rw[HML.o,Lc.1];exact JK),VP,<-Lx.o,<-HV.o];rfl)
      clear FA hd Jl hw2 Gn;go_wp2
      go_roundg (g5-1)
      case measure=>have:=HJ.o;omega
      exact⟨j+1,_,I (l8 HJ.o),by go_num,rfl,HGV7,Jj,RL,KX⟩
     have SD:j=nn:=l8 HJ.o;have HGF:=I (show max gv 1=max (KJ mm) 1 by rw[Lx.o,aP (by rw[HML.o,Lc.1];omega)];rfl);have HMID:=I (show LN mm r j=mm by rw[SD,<-Lc.1,<-HML.o,yu HML.o]);rw[HMID.o]at KU;subst SD;obtain⟨F,hF⟩:∃F:Int->Int,F=λx=>x.tdiv (max gv 1):=⟨_,rfl⟩
     refine Fn (show(mm.map F).length=Lp mm by simp) (show Mt.set Z (mm.map F)=II cO c M1 d (Z+1)by rw[hF,HGF.o];exact alv) hF λSe HFS HFF=>?_;clear hF;by_cases KF:1<=gv
     case' pos =>
      have HD:=I (show∀y,F y=y.tdiv gv by intro y;rw[HFF.o];simp only;congr 1;omega);have hgv':¬gv<1:=O;have hmx1:max gv 1=gv:=O;have Rc:(gv == 0)=false:=t8
     case' neg =>
      have hgv0:gv=0:=O;subst hgv0;have hmx1:max (0:Int) 1=1:=O;have HD:=I (show∀y,F y=y by intro y;rw[HFF.o];simp only;rw[show max (0:Int) 1=1 by omega,Int.tdiv_one])
     all_goals
      go_wp2
      go_loopg [131] j (λgk ii wr=>∃i:Nat,e9 (gk+i=j)/\ii=.int .i64 (i:Int)/\e9 (JP wr w (some ⟨G,0,none⟩) H p1 vs1 (Mt.set Z (LN (mm.map F) mm i)))/\e9 (D4 w wr)/\e9 (wr.heap[wr3.heap.size]?=some (SH #[.int .i64 (c:Int)] 3 (0,0))))
      ·exact⟨0,I O,rfl,I (by rw[vz];exact KU),VL,FG⟩
      obtain⟨i,HK,rfl,ad0,HX6r,HB6r⟩:=hrel;by_cases Th:i<j
      ·have Qp:=ad0.rows.row Z (by rw[km,GN.o];exact QJ);rw[HVT.o,tu nv,NE]at Qp;have hlen:=Qp.ints.hlen;have⟨b,off,he,hyi⟩:=Qp.ints.at Th;simp only[Pi,gl,gi]at he;obtain⟨rfl,rfl⟩:=he;rw[fs,AC Se.o (by rw[HML.o,Lc.1];exact Th)]at hyi;obtain⟨g',Tj,_,KG,_⟩:=Qp.block Th;simp only[Pi,gl,gi]at Tj;subst Tj;have hfi:=KG i;have⟨yv,Lg⟩:=j7 (mm[i]?.getD 0);rw[<-Lg]at hyi;have O9:=HBM.o i;rw[<-Lg]at O9;obtain⟨hyb1,hyb2⟩:=O9;have HFI:=I (show F yv=(mm.map F)[i]?.getD 0 by rw[Lg];simp[HML.o,Lc.1,Th]);rw[HD.o]at HFI;have hw0:∀g:Int,IntKind.i64.wrap (yv.tdiv g)=yv.tdiv g:=by
        intro g;have h2:(yv.tdiv g).natAbs<=yv.natAbs:=by rw[B'];exact Zs _ _
        rw[j0];omega
       first|have hw:=hw0 gv|skip
       clear Qp KG Lg hlen hw0;go_wp2
       go_roundg (gk-1)
       case measure=>exact ck
       refine⟨i+1,I (l8 HK.o),by go_num,I ?_,I (kb (p:=⟨gt,i,none⟩) HX6r.o Pf _),I ?_⟩
       ·rw[<-wk (m:=mm.map F) (r:=mm) (j:=i) nv Se.o (by rw[HML.o,Lc.1];exact Th),<-HFI.o];exact ad0.N9 QJ HVT.o i _
       have hne:wr3.heap.size≠gt:=l8 NZ.1;rw[If _ _ _ _ hne];exact HB6r
      have hij':i=j:=l8 HK.o;have HMF:=I (show Mt.set Z (LN (mm.map F) mm i)=II cO c M1 d (Z+1)by
       rw[<-HFS.o,show i=(mm.map F).length by rw[Se.o,HML.o,Lc.1];exact hij',yu Se.o])
      rw[HMF.o]at ad0;subst hij';go_wp2_with rfl;refine Pd ?_;exact⟨t+1,I (l8 HT.o),by go_num,I (by rw[show d+1+(t+1)=Z+1 by have:=Pq.o;omega];exact ad0),HX6r,HB6r⟩
    have Zc:d+1+t=H:=l8 HT.o;have htE2:t=H-(d+1):=O;rw[Zc]at M3;clear Zc;have qq0:=@Q3;exact GK
  rw[f8 OI]at RQ;have Qb:=I (show WF cO M (c+1)=(K,d)by
   show JM cO c (WF cO M c)=_;rw[adS.o];unfold JM;simp only;rw[<-HP.o,Hk.o,f8 OI])
  by_cases hpd:p1=d
  case' pos=>subst hpd;rw[i7 rfl,show H-p1=0 by omega,R8]at RQ
  case' neg=>rw[f8 hpd]at RQ
  all_goals
   go_wp2_with rfl;refine Calls.mono RQ.o ?_;rintro e w5 ⟨rfl,F'⟩;have Hh:=I ((C5.trans ZL).trans F');have KU:=I ((HM.ext (D4.alloc wr3 (SH #[.int .i64 (c:Int)] 3))).ext F');clear F' T9;go_wp2_with rfl;refine Q3 ?_;exact⟨c+1,_,vs,K,I (l8 HK3.o),by go_num,rfl,Qb,KU,Hh⟩
 have RB:c=nn:=l8 HK3.o;subst RB;go_wp2;go_ret;exact⟨au (by rw[HN.o,adS.o]),C5⟩
end
section
def y9.Yx(w:J)(base:Nat)(x:Int)(hb:base<=w.heap.size):y9 (w.alloc (SH #[U x] 3)) base (GT w 1 1) [x] :=
 nr w #[U x] 1 hb (by simp[maxLen]) rfl
def ZM.acv(w:J)(base:Nat)(x y:Int)(hb:base<=w.heap.size):ZM (w.alloc (SH #[U x,U y] 80)) base (GT w 1 1) [(x,y)] :=
 ⟨by simp[GW],.inr ⟨w.heap.size,1,_,rfl,hb,nE w _,m9 _,by decide,rfl,by simp[GW]⟩⟩
def N'(h:σ:=by
 go_wp2;refine GE (v:=.agg #[ato false,d9,d9,U 0]) Zw rfl ⟨by rw[aa.o];exact iJ.no _ _,HZ⟩
 ):σ:=h
def sJ{w:J}{p:Int}{a:o6}{n cap:Nat}{V:o7}(h:d6 w a n cap V):
 Calls Tryz.prog 61 #[Id p a n cap] w λe w'=>iJ w' w e (JX p V)/\D4 w w':=by
 have⟨W,hW⟩:=j7 ((w.alloc (SH #[U p,FB a n cap] 31)).alloc (SH #[ato false,d9,d9,U 0] 89));have Oa:W.heap.size=w.heap.size+2:=by rw[hW];simp
 have hX:D4 w W:=by rw[hW];exact ZL.trans ZL
 refine y5 (show W.heap[w.heap.size+1]?=some (SH #[ato false,d9,d9,U 0] 89 (0,0))by rw[hW];exact LE j9) (show W.cell? (IM w 0)=some (U p)by rw[hW];exact D4.o9 ZL j9) (show W.cell? (IM w 1)=some (FB a n cap)by rw[hW];exact D4.o9 ZL j9) (h.ext hX) hX h.hlen λE6 Kz K9 HI HX HVL=>?_;refine kv (bV (p:=p) HI) (λ(w':J) (hx:D4 W w') (v0 v1 v2 v3:atY)=>IT (ZO ((hx.block _ O).trans E6) v0 v1 v2 v3).1) (λ(w':J) (hx:D4 W w') (v0 v1 v2 v3:atY)=>Ps (w:=w) (r:=w.heap.size+1) (HX.trans hx) (bq _) v0 v1 v2 v3) (λ(w':J) (hx:D4 W w') (v0 v1 v2 v3:atY)=>(ZO ((hx.block (w+1) O).trans E6) v0 v1 v2 v3).2) (λ(w':J) (hx:D4 W w')=>IT ((hx.block _ O).trans E6)) λSd GK Lz aaY MP=>?_;clear h hX;cases hgo:ak p V
 ·rw[hgo]at Sd;have Jn:=I (show JX p V=L5.no by unfold JX;rw[hgo];rfl);clear hgo;go_in
  go_wp2_with rfl;rw[<-hW];refine i6 Sd λw1 hx=>?_;have⟨q0,q1,q2,q3,qf⟩:=MP.o w1 hx;obtain⟨z0,z1,z2,z3,_⟩:=GK.o w1 hx (ato false) d9 (d9) (U 0);have HZ:=I (Lz w1 hx (ato false) d9 (d9) (U 0));clear hx hW;have qq0:=@KH;exact U7
 rw[hgo]at Sd;have⟨h1,h32,Fw,I6,Lk,hV⟩:=kJ hgo;generalize p.toNat=q at Fw I6 Lk;have HGO:=I hgo;have Ht:1<=n:=by rw[<-HVL.o];exact h1
 have IU:n<=32:=by rw[<-HVL.o];exact h32
 have⟨g,HG⟩:=Ok (bu p V);have Lx:=I (λ(w':J) (hx:D4 W w')=>iR (p:=p) (HI.ext hx));simp only[<-HG.o]at Lx;clear hgo hV h1 h32;by_cases JJ:p=1
 ·subst JJ;clear Fw;have Jn:=I (show JX 1 V=⟨true,[(g,1)],[],0⟩by unfold JX;rw[i7 HGO.o,i7 l7,<-HG.o]);go_in
  go_wp2_with rfl;rw[<-hW];refine qc Sd λw1 X1=>?_;have c0:=X1.o9 Kz.o;have c1:=X1.o9 K9.o;clear hW;go_wp2_with rfl;refine qc (Lx _ X1) λw2 C9=>?_;go_wp2_with rfl;refine qc (cW g _) λw3 C0=>?_;have E4:=C9.trans C0;have X4:=I (X1.trans (E4.trans (D4.alloc w3 (SH #[U g,U 1] 80))));have⟨q0,q1,q2,q3,qf⟩:=MP.o _ X4.o;obtain⟨z0,z1,z2,z3,_⟩:=GK.o _ X4.o (ato true) (GT w3 1 1) d9 (U 0);have HZ:=I (Lz _ X4.o (ato true) (GT w3 1 1) d9 (U 0));have Qu:=I (aaY _ X4.o (ato true) (GT w3 1 1) d9 (U 0));have LR:=(X1.trans E4).size;have Q1:=I ((ZM.acv w3 w g 1 O).keep (λk hk=>Qu.o k (by simp only[Value.ownBlock,Pi]at hk;omega)));clear E4 c0 c1;go_wp2;refine GE (v:=.agg #[ato true,GT w3 1 1,d9,U 0]) Zw rfl ⟨by rw[Jn.o];exact⟨_,_,_,_,_,_,rfl,Q1,A9.nil _ _ _ _⟩,HZ⟩
 subst Fw;have Qo:2<=(q:Int):=O;have hpb:((q:Int) == 1)=false:=by simp[JJ]
 have Q':=dc ((n:Int)-1);have Jn:=I (Cp HGO.o Qo);generalize JX (q:Int) V=o at Jn⊢;have HQ:=I JJ;clear JJ Qo;go_in
 go_wp2_with rfl;rw[<-hW];refine qc Sd λw1 hx=>?_;have c0:=hx.o9 Kz.o;have c1:=hx.o9 K9.o;have X1:=I hx;have⟨w2,hw2⟩:=j7 (w1.alloc (SH #[ato true,d9,d9,U 0] 89));have F0:w2.heap[w1.heap.size]?=some (SH #[ato true,d9,d9,U 0] 89 (0,0)):=by rw[hw2];exact LE rfl
 have C9:D4 w1 w2:=by rw[hw2];exact ZL
 have X2:=I (hx.trans C9);have Wm:=hx.size;clear hW;go_upto_region 6 with rfl;rw[<-hw2];clear hw2;have d0:=C9.o9 c0;have d1:=C9.o9 c1;clear c0 c1 C9;generalize w1.heap.size=B at F0 Wm⊢
 have SS:=I (show GC W (w2.alloc (SH #[U ((n:Int)-1)] 3)) B d9 (d9) (GT w2 1 1) [] [] (((n:Int)-1)::[].map λf:Int×Int×Int=>f.1) 0 from
  ⟨ZL.blk F0,og,A9.nil _ _ _ _,y9.Yx _ _ _ (l8 (IO F0)),X2.trans ZL,Wm⟩)
 clear F0;go_wp2
 go_loopg [4] (Lp (GM V [])+1) (λgk ff wr=>∃(k:Nat) (L:l9) (pt:o3) (vp vs:atY) (aF:o6) (nF cF:Nat),e9 (gk+k=Lp (GM V [])+1)/\ff=FB aF nF cF/\e9 (GC W wr B vp vs (FB aF nF cF) pt L (((n:Int)-1)::L.map λf=>f.1) k)/\e9 (Lp (GM V L)+1<=gk)/\e9 (∀f∈L,f.1<=1000)/\e9 (Lp L<=32*k)/\e9 (Ox (q:Int) V gk pt L k=o))
 ·exact⟨0,[],[],_,_,_,_,_,I O,rfl,SS,I (m9 _),I (λf hf=>by cases hf),I j9,Jn⟩
 rename Nat=>g1;rename J=>A1;obtain⟨k,L,pt,vp,vs,aF,nF,cF,HK,rfl,HO,HFU,Hj,Gq,Uo⟩:=hrel;obtain⟨aP,nP,cP,rfl,HNP⟩:=HO.pt.var;obtain⟨aS,nS,cS,rfl,HNS⟩:=HO.st.var;have HFR0:=I (show(GM V []).length<=32 by have h1:Lp (GM V [])<=Lp V-2:=eJ [] (Lp V-2);have h2:=HVL.o;omega);have hk33:k<=33:=by have h1:=HK.o;have h2:=HFR0.o;omega
 have hnS:nS<=1100:=by rw[<-HNS.o];have:=Gq.o;omega
 have hnF:nF<=1101:=by
  have h1:=HO.fx.ints.hlen;simp only[mg,b7]at h1;have:=Gq.o;omega
 have⟨rk,Wg⟩:=j7 (gK (q:Int) (((n:Int)-1)::L.map λf=>f.1));have Wy:=I (λ(w':J) (hx:D4 A1 w')=>YU (n:=(q:Int)) (HO.fx.ext hx).ints (Z1 (V:=V) O Hj) O);simp only[<-Wg]at Wy;have hrle:rk<=(q:Int):=by rw[Wg];exact XV O _
 have HDN:=I (show ft (q:Int) V L=decide (rk=(q:Int))by rw[Wg];unfold ft;rw[HVL.o]);have c0:=HO.ext.o9 Kz.o;have hk:=D4.drew A1;clear Wg;by_cases hdn:rk<(q:Int)
 ·have V3:=I (show ft (q:Int) V L=false by rw[HDN.o];exact RK O);have hdd:decide (rk<(q:Int))=true:=bl hdn;go_wp2_with rfl;refine k6 (S:=(λw'=>w'.cell? (IM w 0)=some (U q)/\D4 A1 w')) k8 ?_ (λr9=>?_)
  ·exact⟨hk.o9 c0,hk⟩
  refine ks ⟨?_⟩;refine tk 4 ?_;refine tk 5 ?_;refine rd 3 λK hK=>?_;go_simp
  (go_at_call 130;refine i6 (Wy _ hk) λw3 C0=>?_;have hk:=hk.trans C0)
  go_wp2_with rfl;refine KO (an (hk.o9 c0) hk) λr9=>?_;refine tk 6 ?_;refine ST k8 ?_ _;have C8:=I (HO.grow hk);have X3:=I C8.ext;have⟨b0,b1,b2,b3,bf⟩:=IT C8.box;have e0:=X3.o9 Kz.o;have e1:=X3.o9 K9.o;have Gc:=I (DF (p:=(q:Int)) (HI.ext X3) C8.st.SL O);have⟨ok,Ho⟩:=Ok (GA (q:Int) V L);rw[<-Ho.o]at Gc;clear hk c0 r9;go_wp2_with rfl;refine Gc.mono ?_;rintro e w4 ⟨Vu,E4⟩;obtain⟨la,Mu,My,lb,Ms,Mx,lc,Mr,Mw,rfl,Qs⟩:=Vu.lpc;unfold JI;have⟨w5,Gz⟩:=j7 (w4.alloc (bT la Mu My lb Ms Mx lc Mr Mw));have F':D4 w4 w5:=by rw[Gz];exact ZL
  have K5:=I (E4.trans F');have X5:=I (X3.trans K5);go_upto_region 9 with rfl;rw[<-Gz];cases ok
  ·have aa:=I (show o=L5.no by
    rw[<-Uo.o];exact AG V3.o (λh=>by rw[<-Ho.o]at h;exact Bool.noConfusion h.1))
   have⟨q0,q1,q2,q3,qf⟩:=MP.o w5 X5.o;obtain⟨z0,z1,z2,z3,_⟩:=GK.o w5 X5.o (ato false) d9 (d9) (U 0);have HZ:=I (Lz w5 X5.o (ato false) d9 (d9) (U 0));clear Gz F' E4 Qs Vu b0 b1 b2 b3 bf e0 e1;exact N'
  have⟨E1,E2,E3⟩:=uL Ho.symm;rw[E1,E2,E3,eI]at Qs;have Ul:=lQ (Qs.ext F');have⟨r,GV⟩:=Ok (cY q V L);rw[show bH az (G4 q V L) (UA q) (N8 V L)=r from GV.o.symm]at Ul;have GG:=I Ul;have t0:=aw (show w5.heap[w4.heap.size]?=some (SH #[FB la Mu My,FB lb Ms Mx,FB lc Mr Mw] 124 (0,0))by rw[Gz];exact LE rfl);have t1:=aJ (show w5.heap[w4.heap.size]?=some (SH #[FB la Mu My,FB lb Ms Mx,FB lc Mr Mw] 124 (0,0))by rw[Gz];exact LE rfl);have t2:=aK (show w5.heap[w4.heap.size]?=some (SH #[FB la Mu My,FB lb Ms Mx,FB lc Mr Mw] 124 (0,0))by rw[Gz];exact LE rfl);have Lt:=I K5.size;clear E1 E2 E3 Ul Gz F' E4 Qs Vu b0 b1 b2 b3 bf e0 e1;go_wp2_with rfl;refine GG.mono ?_;rintro e w6 ⟨⟨xa,xn,xc,ya,yn,yc,ra,rn,rc,rfl,LV⟩,Jg⟩;have⟨w7,Ie⟩:=j7 (w6.alloc (de r xa xn xc ya yn yc ra rn rc));have Jk:D4 w6 w7:=by rw[Ie];exact ZL
  have K7:=I ((K5.trans Jg).trans Jk);refine Op (X3.trans K7) ((LV.ext Jk).mono Lt) (show w7.heap[w6.heap.size]?=some (de r xa xn xc ya yn yc ra rn rc)by rw[Ie];exact LE rfl) (show w3.heap.size<=w6.heap.size by have h1:=Jg.size;have h2:=Lt.o;omega) λX7 GS KX SY=>?_
  have HSZ:=I (λ(hs:r.status=1)=>show(GM V L).length<=Lp r.X/\Lp r.Y=q+1/\A5 r.value=true/\∀k,k<Lp r.Y->A5 (r.Y[k]?.getD (0,0))=true by
   have:=vF (p:=(q:Int)) Ho.symm T3;rw[eI,<-GV.o]at this;exact this)
  have HNX:=I (λ(hs:r.status=1) (f:Nat)=>show Ox (q:Int) V (f+1) pt L k=Ox (q:Int) V f (NP q r) (eu V L r) (k+1)/\Lp (GM V (eu V L r))<Lp (GM V L) by
   have h1:=Ej (f:=f) (k:=k) (pt:=pt) V3.o Ho.symm T3;have h2:=sV Ho.symm T3;rw[eI,<-GV.o]at h1 h2;exact⟨h1,h2⟩)
  obtain⟨rs,rX,Z,rr,⟨FR,H⟩,rp⟩:=r;unfold JA;go_upto_region 12 with rfl;rw[<-Ie];clear LV Jg Jk Ie t0 t1 t2;generalize w6.heap.size=G at KX SY⊢;have VH:=IO KX.o;have⟨l0,l1,l2,l3,l4,l5,l6,lf⟩:=FN KX.o
  try simp only at l0 l1 l2 l3 l4 l5 l6
  by_cases hs:rs=1
  ·subst hs;have⟨Wa,Oz,NF,Lg⟩:=HSZ.o rfl
   try simp only at Wa Oz NF Lg
   have Ha:=aV NF
   try simp only at Ha
   refine Fn Wa Oz Lg λHXL OQ HYV=>?_;have Nb:q<=yn:=by have h1:=GS.y.here.hlen;have h2:=OQ.o;(try simp only at h1);omega
   have hyc:(q:Int)<=(yc:Int):=by have h1:=GS.y.here.y7;omega
   have U':=I (nh (GS.y.here.take Nb) O (λi=>by
    by_cases hi:i<q
    ·rw[Ro,i7 hi];show -9223372036854775807<=(Z[i]?.getD (0,0)).1/\(Z[i]?.getD (0,0)).1<=9223372036854775807;have:=aV (HYV i Yw);omega
    rw[Ro,f8 hi];simp))
   have e0:=X7.o9 Kz.o;have e1:=X7.o9 K9.o;clear Wa Oz NF Lg;go_wp2_with rfl;refine hF U' λw8 v ho MX=>?_;obtain⟨a8,n8,p8,rfl,OU⟩:=ho.var;have Nt:=I (C8.grow (K7.trans MX));have⟨b0,b1,b2,b3,bf⟩:=IT Nt.box;refine Fn C8.lt (ho.mono (show B+1<=w7.heap.size by have h1:=C8.lt;have h2:=K7.size;omega)) ((IV.refl w3 w7).ext MX) λLH HP8 Un=>?_;have⟨w9,hw9⟩:=j7 (w8.setCell (IM B 1) (FB a8 n8 p8));have Il:=I (Nt.aft HP8);rw[<-hw9]at Il;have Um:=I (Un.set (j:=1) LH.o (FB a8 n8 p8));rw[<-hw9]at Um;clear ho;go_upto_region 15 with rfl;rw[<-hw9];clear hw9 b0 b1 b2 b3 bf e0 e1;obtain⟨k1,Ij⟩:∃x:Int,x=(k:Int)+1:=⟨_,rfl⟩;have hwk:=qj ((k:Int)+1) k1
   have HK1:=I (show k1=((k+1:Nat):Int)by omega);clear Ij;have⟨b0,b1,b2,b3,bf⟩:=IT Il.box;have⟨O6,acI⟩:=j7 (w9.setCell (IM B 3) (U k1));have Jx:=I (Il.setK (k':=k+1) HK1);rw[<-acI]at Jx;have SP:=I (Um.set (j:=3) LH.o (U k1));rw[<-acI]at SP;go_upto_region 16 with rfl;rw[<-acI];clear acI b0 b1 b2 b3 bf hwk;have⟨b0,b1,b2,b3,bf⟩:=IT Jx.box;have e0:=Jx.ext.o9 Kz.o;have e1:=Jx.ext.o9 K9.o;have Nw:3<=n:=by
    obtain⟨q',hq',acS,hq5',hl',_⟩:=ap HGO.o;have h4:=U0 (n:=q') (l8 HQ.o) hq5';have:=HVL.o;omega
   have RS:=I (lg (q:Int) a n cap Nw O Jx.st.SL);go_wp2_with rfl;refine hF RS λQ9 v ho QI=>?_;obtain⟨a11,m,c11,rfl,HM⟩:=ho.var;refine Fn (Jx.grow QI) (SP.ext QI) (show bC L (n-2)=GM V L by unfold GM;rw[HVL.o]) λVS QZ HFN=>?_;rw[HFN.o]at ho HM;refine kv (ho.mono (show w3.heap.size<=O6.heap.size by have h1:=SP.size;have h2:=K7.size;omega)) (QZ.on GS.x) (QZ.blk SY.o KX) (EE.of (hi:=Q9.heap.size) C8.st.lt (m9 _)) (EE.of (hi:=Q9.heap.size) C8.fx.lt (m9 _)) λad8 afc RW HOS VQ=>?_;have hmx:m<=xn:=by have h1:=afc.here.hlen;have h2:=HXL.o;have h3:=HM.o;(try simp only at h1);omega
   have Zu:m<=32:=by
    exact PQ
   have ahj:=I (show(L++H6 (GM V L) ⟨1,rX,Z,rr,(FR,H),rp⟩ 0)=L by rw[vB,D0]);clear ho b0 b1 b2 b3 bf e0 e1 l0 l1 l2 l3 l4 l5 l6 lf;go_wp2
   go_loopg [4,67] m (λgk ff ii wr=>∃(j:Nat) (vs':atY) (aF':o6) (nF' cF':Nat),e9 (gk+j=m)/\ff=FB aF' nF' cF'/\ii=U j/\e9 (GC W wr B (FB a8 n8 p8) vs' (FB aF' nF' cF') ((Z.take q).map D2) (L++H6 (GM V L) ⟨1,rX,Z,rr,(FR,H),rp⟩ j) (((n:Int)-1)::(L++H6 (GM V L) ⟨1,rX,Z,rr,(FR,H),rp⟩ j).map λf=>f.1) (k+1))/\e9 (IV w3 Q9 wr)/\e9 (EE w3 Q9 vs')/\e9 (EE w3 Q9 (FB aF' nF' cF')))
   ·exact⟨0,_,_,_,_,I O,rfl,rfl,I (by rw[ahj.o];exact VS),I (IV.refl _ _),HOS,VQ⟩
   obtain⟨j,vs2,aF2,nF2,cF2,HJ,rfl,rfl,FM,IN,ahl,VP⟩:=hrel;obtain⟨aS2,nS2,cS2,rfl,HNS2⟩:=FM.st.var;by_cases Nh:j<m
   ·have hjx:j<xn:=by omega
    have⟨fb,PV,hfe,ZE⟩:=(IN.ints (m9 _) ad8).ints.at Nh;subst hfe;have⟨xb,Py,x1,x2,Vo,hxj,hxc1,hxc2⟩:=(IN.on afc).here.at hjx;subst Vo;have⟨l0,l1,l2,l3,l4,l5,l6,lf⟩:=FN (IN.blk SY.o RW)
    try simp only at l0 l1 l2 l3 l4 l5 l6 hxj
    have⟨s,hs⟩:=j7 ((GM V L)[j]?.getD 0);rw[<-hs]at ZE;by_cases B9:0<x1
    ·have Sc:=I (show(L++H6 (GM V L) ⟨1,rX,Z,rr,(FR,H),rp⟩ j)++[(s,-FR,H)]=L++H6 (GM V L) ⟨1,rX,Z,rr,(FR,H),rp⟩ (j+1)by
      rw[lX,i7 (by show 0<(rX[j]?.getD (0,0)).1;rw[hxj];exact B9),<-hs,vl])
     have⟨b0,b1,b2,b3,bf⟩:=IT FM.box;have La:=I (show(L++H6 (GM V L) ⟨1,rX,Z,rr,(FR,H),rp⟩ j).length<=2000 by
      rw[ar];have h1:=nz (GM V L) ⟨1,rX,Z,rr,(FR,H),rp⟩ j;have h2:=Gq.o;omega)
     have Qi:=I FM.lt;clear hs;go_wp2_with rfl;have C4:=D4.drew wr;have r8:=I λw' (h:D4 wr w')=>TX (h.o9 b2) (TX (h.o9 l4) (h.o9 l5));refine cj (M:=[10]) (S:=λw'=>w'.cell? (IM B 2)=some (FB aS2 nS2 cS2)/\w'.cell? (IM G 4)=some (U FR)/\w'.cell? (IM G 5)=some (U H)) k8 ?_;have r9:=r8.o _ C4;have⟨wd,hwd⟩:=j7 wr.drew;rw[<-hwd]at C4 r9;rw[<-hwd];clear hwd;refine ly ⟨?_⟩;refine ll 4 ?_;refine Im 5 λK hK=>?_;go_simp;go_at_call 126;refine i6 (fc FR H _ O O) λN7 Jq=>?_;have C4:D4 wr N7:=C4.trans Jq;have Zj:=C4.size;go_wp2_with rfl;refine KL (r8 _ C4) λr9=>?_
     refine lp 6 ?_;refine Im 7 λK hK=>?_;go_simp;refine hK.out _ _ (λ_=>r8.o _ (C4.trans ZL)) ?_;clear hK K
     try simp only[Act.put,sA,sB,sC]
     refine Im 8 λK hK=>?_;refine iq I8 Tryz.O8 rfl Vz FS _ _ l7 (B+1) (FB aS2 nS2 cS2) _ l7 (FM.st.ext (C4.trans ZL)) _ 1 1 [(s,-FR,H)] l7 (ID.lit I8 _ _ _ 1 l7 _ l7 _ l7 O) (l8 La.o) PU ?_;intro v13 S5 ho hg r';refine Fn ((hg.block B PU (λe=>by have:=(FM.st.lt B e.symm).1;omega)).trans ((C4.trans ZL).blk FM.box)) ((IN.ext (C4.trans ZL)).grown hg ahl) (ahl.near r' (by have h1:=IN.size;simp;omega)) λaa2 QY VV=>?_;obtain⟨a13,n13,c13,rfl,afa⟩:=ho.var;have Ks:=I (FM.aeV (C4.trans ZL) hg ho);have⟨c0,c1,c2,c3,cf⟩:=IT aa2.o;have⟨m0,m1,m2,m3,m4,m5,m6,mf⟩:=FN (QY.blk SY.o RW)
     (try simp only at m0 m1 m2 m3 m4 m5 m6)
     clear ho hg r';refine KL (eN c2 (eN m4 m5)) λr9=>?_;refine lp 9 ?_;refine Ql 10 ?_;refine cU k8 ?_ _;rw[Sc.o]at Ks;have⟨w14,PG⟩:=j7 (S5.setCell (IM B 2) (FB a13 n13 c13));have RO:=I (QY.set (j:=2) LH.o (FB a13 n13 c13));rw[<-PG]at Ks RO;go_upto_region 21 with rfl;rw[<-PG];clear PG c0 c1 c2 c3 cf m0 m1 m2 m3 m4 m5 m6 mf b0 b1 b2 b3 bf l0 l1 l2 l3 l4 l5 l6 lf r9 C4;have HB14:=I Ks.lt;have IP:=I (show(((n:Int)-1)::(L++H6 (GM V L) ⟨1,rX,Z,rr,(FR,H),rp⟩ j).map λf=>f.1).length<=2001 by rw[mg,b7];have:=La.o;omega)
     have HFE:=I (show(((n:Int)-1)::(L++H6 (GM V L) ⟨1,rX,Z,rr,(FR,H),rp⟩ j).map λf=>f.1)++[s]=((n:Int)-1)::(L++H6 (GM V L) ⟨1,rX,Z,rr,(FR,H),rp⟩ (j+1)).map λf=>f.1 by
      rw[<-Sc.o];exact Ar _ _ (s,-FR,H))
     go_wp2_with (first
      | (at_builtin;refine bK rfl _ _ rfl (B+1) (FB aF2 nF2 cF2) _ rfl (Ks.fx.ext ZL) _ 1 _ [s] rfl (G3 j9) (l8 IP.o) (by have h2:=HB14.o;simp;omega) ?_;intro v15 KY ho hg r';have HS15:=I ((RO.ext ZL).grown hg VP);have HN15:=I (VP.near r' (by have h1:=RO.size;simp;omega));obtain⟨a15,n15,c15,rfl,HNN15⟩:=ho.var;have NY:=I (Ks.ak5 ZL hg ho);clear ho hg r'))
     rw[HFE.o]at NY;refine sq ?_;exact⟨j+1,_,_,_,_,I (l8 HJ.o),rfl,by go_num,NY,HS15,VV,HN15⟩
    have Sc:=I (show(L++H6 (GM V L) ⟨1,rX,Z,rr,(FR,H),rp⟩ j)=L++H6 (GM V L) ⟨1,rX,Z,rr,(FR,H),rp⟩ (j+1)by
     rw[lX,f8 (by show¬0<(rX[j]?.getD (0,0)).1;rw[hxj];exact B9),D0])
    clear hs;go_wp2_with rfl;refine sq ?_;exact⟨j+1,_,_,_,_,I (l8 HJ.o),rfl,by go_num,I (by rw[<-Sc.o];exact FM),IN,ahl,VP⟩
   have PJ:j=m:=l8 HJ.o;have HE:=I (show L++H6 (GM V L) ⟨1,rX,Z,rr,(FR,H),rp⟩ j=eu V L ⟨1,rX,Z,rr,(FR,H),rp⟩by unfold eu;rw[HM.o,PJ]);rw[HE.o]at FM;refine Fn (AE (V:=V) (L:=L) (r:=⟨1,rX,Z,rr,(FR,H),rp⟩) (k:=k) (by rw[HVL.o];exact IU) Hj.o Gq) (HNX trivial (g1-1)) (show g1-1+1=g1 by have:=HFU.o;omega) λIY SU Uw=>?_;subst PJ;go_wp2_with rfl;refine L7 ?_;exact⟨k+1,eu V L ⟨1,rX,Z,rr,(FR,H),rp⟩,_,_,_,_,_,_,I (by have h1:=HK.o;have h2:=HFU.o;omega),rfl,FM,I (by have h1:=SU.2;have h2:=HFU.o;omega),I IY.1,I IY.2,I (by have h1:=SU.1;rw[Uw.o]at h1;exact h1.symm.trans Uo)⟩
  have aa:=I (show o=L5.no by
   rw[<-Uo.o];refine AG V3.o (λh=>hs ?_);have:=h.2;rw[eI,<-GV.o]at this;exact this)
  have KD:(rs != 1)=true:=by simp[hs]
  have⟨q0,q1,q2,q3,qf⟩:=MP.o w7 X7.o;obtain⟨z0,z1,z2,z3,_⟩:=GK.o w7 X7.o (ato false) d9 (d9) (U 0);have HZ:=I (Lz w7 X7.o (ato false) d9 (d9) (U 0));exact N'
 have HDT:=I (show ft (q:Int) V L=true by rw[HDN.o];exact bl O);have hdd:decide (rk<(q:Int))=false:=RK hdn;go_wp2_with rfl;refine k6 (S:=(λw'=>w'.cell? (IM w 0)=some (U q)/\D4 A1 w')) k8 ?_ (λr9=>?_)
 ·exact⟨hk.o9 c0,hk⟩
 refine ks ⟨?_⟩;refine tk 4 ?_;refine tk 5 ?_;refine rd 3 λK hK=>?_;go_simp
 (go_at_call 130;refine i6 (Wy _ hk) λw3 C0=>?_;have hk:=hk.trans C0)
 go_wp2_with rfl;refine KO (an (hk.o9 c0) hk) λr9=>?_;refine tk 6 ?_;refine ST k8 ?_ _;have C8:=I (HO.grow hk);have⟨b0,b1,b2,b3,bf⟩:=IT C8.box;have X3:=I C8.ext;have⟨q0,q1,q2,q3,qf⟩:=MP.o w3 X3.o;obtain⟨z0,z1,z2,z3,_⟩:=GK.o w3 X3.o (ato true) (FB aP nP cP) (FB aS nS cS) (U k);refine Fn (Lz w3 X3.o (ato true) (FB aP nP cP) (FB aS nS cS) (U k)) (aaY w3 X3.o (ato true) (FB aP nP cP) (FB aS nS cS) (U k)) (show o=⟨true,pt,L,k⟩by rw[<-Uo.o];exact Ei HDT) λHZ Qu HR=>?_;have Q1:=I ((C8.pt.keep (λj hj=>Qu.o j (l8 ((C8.pt.lt j hj).1)))).mono (show w.heap.size<=B+1 by omega));have Hx:=I ((C8.st.keep (λj hj=>Qu.o j (l8 ((C8.st.lt j hj).1)))).mono (show w.heap.size<=B+1 by omega));clear hk c0 r9;go_wp2;refine GE (v:=.agg #[ato true,FB aP nP cP,FB aS nS cS,U k]) Zw rfl ⟨by rw[HR.o];exact⟨_,_,_,_,_,_,rfl,Q1,Hx⟩,HZ⟩
end
section
variable{n k r:Nat}{V:o7}{a:o6}
def Ou(n k:Nat)(M:o4):o4:=(M.take k).map (λr=>r.set (n-2) (-1))++M.drop k
theorem Be{M:o4}(h:k<Lp M):(Ou n k M)[k]?.getD []=M[k]?.getD []:=by
 unfold Ou;rw[J1 t8,QL];congr 2;simp;omega
theorem Fh{M:o4}(h:k<Lp M):(Ou n k M).set k (((Ou n k M)[k]?.getD []).set (n-2) (-1))=Ou n (k+1) M:=by
 rw[Be h];unfold Ou;have G:Lp ((M.take k).map λr=>r.set (n-2) (-1))=k:=t8;rw[O' _ _ O,G,R8,Xd h,Zq,tn h,rN,In h];simp
theorem Yu(hn:2<=n):(D8 (Fx 1 (n-1)) k).set (n-2) (-1)=eD n k:=by
 unfold eD;obtain⟨m,rfl⟩:∃m,n=m+2:=⟨n-2,by omega⟩;have e:D8 (Fx 1 (m+2-1)) k=D8 (Fx 1 m) k++[Fv (Ia (1+(m:Int)) (k:Int))]:=by
  unfold D8 Fx;rw[show m+2-1=m+1 by omega,mr,rN,rN];rfl
 have G:Lp (D8 (Fx 1 m) k)=m:=by unfold D8 Fx;simp
 rw[e,show m+2-2=m by omega,O' _ _ O,G,R8];rfl
theorem WX{q:Nat}(G:2<=n):Ou n q (Gk q (Fx 1 (n-1)))=(List.range q).map (eD n):=by
 unfold Ou;have hl:Lp (Gk q (Fx 1 (n-1)))=q:=by unfold Gk;simp
 rw[aP O,Ks O,D0];unfold Gk;rw[PX];exact TL λk _=>Yu G
theorem XH(hn:2<=n):(List.replicate (n-1) (1:Int)).set (n-2) 0=List.replicate (n-2) 1++[0]:=by
 obtain⟨m,rfl⟩:∃m,n=m+2:=⟨n-2,by omega⟩;rw[show m+2-1=m+1 by omega,show m+2-2=m by omega,WR,O' _ _ j9];simp
theorem Dk{p:Int}(h:2<=Lp V):(aY V).set (Lp V-2) (bu p V,1)=dU p V:=by
 unfold dU;have hl:Lp (aY V)=Lp V-1:=by unfold aY;simp
 obtain⟨m,hm⟩:∃m,Lp V=m+2:=⟨Lp V-2,by omega⟩;rw[List.set_eq_take_append_cons_drop,i7 O,Ks O]
theorem nk{x y:J}{base:Nat}{b c:o6}{m l p q:Nat}{A:o4}{B:o7}{C:o3}(G:bZ x base (FB a n p) A)(Q:y9 x base (FB b m q) B)(K:ZM x base (FB c l r) C)(H:∀k,base<=k->y.heap[k]?=x.heap[k]?):L6 y a n p b m q c l r A B C :=
 ⟨bZ.Mg (G.on _ λk G _=>H k G),(Q.on _ λk G _=>H k G).ints,(K.keep λk G=>H k (K.lt k G).1).rats⟩
theorem jH{x:J}(u v t:atY)(b:Nat)(h:b≠r):(((x.setCell (IM r 0) u).setCell (IM r 1) v).setCell (IM r 2) t).heap[b]?=x.heap[b]?:=by
 rw[If _ _ _ _ h,If _ _ _ _ h,If _ _ _ _ h]
def RO(h:σ:=by
 exact⟨(hE.trans ZL).o9 KW.o,B4.trans (hE.trans ZL)⟩
 ):σ:=h
def U2(h:σ:=by
 exact⟨(ZR _ _ _).o9 HG0.o,(((B4.trans hE).store 0 (bq _) _).store 1 (bq _) _).store 2 (bq _) _⟩
 ):σ:=h
theorem DD{w:J}{p:Int}{cap:Nat}(h:d6 w a n cap V):
 Calls Tryz.prog 124 #[Id p a n cap] w λe w'=>Y2 w' e (fe p.toNat n) (gm p.toNat) (dU p V) (ak p V&&decide (2<=p))/\D4 w w':=by
 have⟨W,hW⟩:=j7 ((w.alloc (SH #[U p,FB a n cap] 31)).alloc (SH #[d9,d9,d9] 124));refine kv (show W.heap.size=w.heap.size+2 by rw[hW];simp) (show D4 w W by rw[hW];exact ZL.trans ZL) (show W.cell? (IM w 0)=some (U p)by rw[hW];exact D4.o9 ZL j9) (show W.cell? (IM w 1)=some (FB a n cap)by rw[hW];exact D4.o9 ZL j9) (show W.heap[w.heap.size+1]?=some (SH #[d9,d9,d9] 124 (0,0))by rw[hW];exact LE j9) λFp B4 KW HK1 Uj=>?_;have⟨WG,Tl⟩:=j7 (w.alloc (SH #[U p,FB a n cap] 31));refine Fn (show D4 WG W by rw[hW,Tl];exact ZL) (show WG.heap.size=w.heap.size+1 by rw[Tl];simp) (show WG.cell? (IM w 0)=some (U p)by rw[Tl];simp) λHXG Oq HG0=>?_;clear Tl;have⟨PI,PH⟩:=h.ath;refine Fn (h.ext B4) h.hlen (bV (p:=p) (h.ext B4)) λKx HVL Z=>?_;have LS:(w.heap.size+1)<W.heap.size:=by rw[Fp.o];omega
 have E6:=I (λ(w':J) (hx:D4 W w')=>(hx.block _ LS).trans Uj);clear h LS;have Jn:=I (show∀(e:Ending) (w':J),D4 w w'->e=atn (.tuple #[.agg #[d9,d9,d9],ato false])->(ak p V&&decide (2<=p))=false->Y2 w' e (fe p.toNat n) (gm p.toNat) (dU p V) (ak p V&&decide (2<=p))/\D4 w w' from
  λe w' hx he hf=>by rw[hf];exact⟨⟨none,0,0,none,0,0,none,0,0,he,λh=>Bool.noConfusion h⟩,hx⟩)
 cases hg:ak p V
 ·rw[hg]at Z Jn;clear hg;go_in
  go_upto_region 1 with rfl;rw[<-hW];clear hW;have k0:=KW.o;have k1:=HK1.o;go_wp2_with rfl;refine qc Z λw1 A6=>?_;clear k0 k1;have⟨FH,FL,Hs,JR⟩:=fS (E6 w1 A6);go_wp2;refine GE (v:=.tuple #[.agg #[d9,d9,d9],ato false]) NM rfl (Jn _ _ ((((B4.trans A6).store 0 O _).store 1 O _).store 2 O _) rfl rfl)
 rw[hg]at Z Jn;obtain⟨q,rfl,h1,h5,hlen,_,Ha⟩:=ap hg;have hq:=bp q h5;have JJ:∀n:Fin 6,1<=n.val->2<=cN n.val:=by decide
 have Pc:2<=n:=by rw[<-HVL.o,hlen];exact JJ ⟨q,by omega⟩ h1
 have IU:n<=32:=by rw[<-HVL.o,hlen];omega
 have J9:=I Ha;have Mj:=dc ((n:Int)-1);have HSB:=I (AW IU);have Hi:=I (show(Fx 1 (n-1)).length=n-1 by simp[Fx]);clear hg hlen Ha hq JJ;by_cases Qo:2<=(q:Int)
 ·have hp2':¬(q:Int)<2:=by omega
  rw[show(true&&decide (2<=(q:Int)))=true by rw[bl Qo];rfl];clear Qo;go_in
  go_upto_region 1 with rfl;rw[<-hW];clear hW;have k0:=KW.o;have k1:=HK1.o;go_wp2_with rfl;refine qc Z λw1 B0=>?_;clear k0 k1;have Fo:=B0.o9 KW.o;have FQ:=B0.o9 HK1.o;have A6:=I B0;go_upto_region 4 with rfl;have hk:=D4.drew w1;refine k6 (S:=(λw'=>w'.cell? (IM w 0)=some (U q)/\D4 W w')) k8 ?_ (λH=>?_)
  ·exact⟨hk.o9 Fo,A6.trans hk⟩
  refine ks ⟨?_⟩;refine rd 3 λK hK=>?_;go_simp
  (go_at_call 202;refine hF (kY 1 ((n:Int)-1) (n-1) O O O O) λw3 v3 Gw C0=>?_;obtain⟨a3,n3,c3,rfl,NB⟩:=Gw.var;have hk:=hk.trans C0;have C8:=I Gw;clear Gw)
  go_wp2_with rfl;refine KO (an (hk.o9 Fo) (A6.trans hk)) λH=>?_;refine rd 4 λK hK=>?_;go_simp
  (go_at_call 201;refine(lR q h5 C8.ints HSB.o (by have h1:=NB.o;have h2:=Hi.o;omega)).mono ?_;rintro e w4 ⟨⟨v4,rfl,vs,TU,Oe⟩,E4⟩;obtain⟨a4,n4,c4,rfl,HN4⟩:=TU.var;have Gh:e9 (E8 w4 W (FB a4 n4 c4) vs):=TU.mono' (A6.trans hk).size;have Kd:=I (Oe.mono' (A6.trans hk).size);have hk:=hk.trans E4;clear TU Oe E4)
  go_wp2_with rfl;refine KO (an (hk.o9 Fo) (A6.trans hk)) λH=>?_;refine tk 5 ?_;refine ST k8 ?_ _;have hnq:n4=q:=by have h1:=Kd.len;have h2:=Gh.len;have h3:Lp (Gk q (Fx 1 (n-1)))=q:=(by unfold Gk;simp);omega
  subst hnq;have FM:e9 (JP w4 W a4 n4 c4 vs (Ou n 0 (Gk n4 (Fx 1 (n-1))))):=I ⟨Gh,by have:Ou n 0 (Gk n4 (Fx 1 (n-1)))=Gk n4 (Fx 1 (n-1)):=(by unfold Ou;simp);rw[this];exact Kd⟩;have HX:=I (A6.trans hk);have Qr:=FM.cap.1;have Vx:=FM.cap.2;clear hk Fo FQ;go_wp2
  go_loopg [30] n4 (λgk ii wr=>∃k:Nat,e9 (gk+k=n4)/\ii=U k/\e9 (JP wr W a4 n4 c4 vs (Ou n k (Gk n4 (Fx 1 (n-1)))))/\e9 (D4 W wr))
  ·exact bk
  obtain⟨k,HK,rfl,HMK,XK⟩:=hrel;by_cases hlt:k<n4
  ·have hml:k<Lp (Gk n4 (Fx 1 (n-1))):=by unfold Gk;simp;exact hlt
   obtain⟨G,rfl,_,_,_⟩:=HMK.outer O;obtain⟨gr,cr,S',hcr,TV,_,Pg,_,hncr,hcrm⟩:=HMK.row (n:=n-1) hlt (by rw[Be hml,nw hlt,gR,Hi.o]) O;have KG:=TV.IJ.2.2.1 (n-2);have K6:=TV.IJ.2.2.2 (n-2) O;have HT:=I (HMK.N9 hlt S' (n-2) (-1));rw[Fh hml]at HT;have X2:=I (XK.store (b:=gr) (n-2) Pg (U (-1)));have VA:(n:Int)-1-1=((n-2:Nat):Int):=O;have⟨j,hj⟩:=j7 (n-2);rw[<-hj]at KG K6 HT X2 VA;have JK:j+2=n:=O;clear S' TV hj;exact S7
  have Tk:k=n4:=l8 HK.o;subst Tk;have KU:=I HMK.o;rw[WX Pc]at KU;have⟨wq,hwq⟩:=j7 wr;subst hwq;have X5:=I XK.o;have htm:IntKind.i64.wrap ((n:Int)-1)=(n:Int)-1:=Mj;have SN:=I (gD (w:=wq) (n-1) 1 O);rw[show((n-1:Nat):Int)=(n:Int)-1 by omega]at SN;clear HMK;go_wp2_with rfl;refine hF SN λw6 v6 Ll Jg=>?_;obtain⟨a6,nl,cl,rfl,Jy⟩:=Ll.var;have hnl:nl=n-1:=by have:=Jy.o;simp at this;omega
  obtain⟨gl,rfl,LW,hfl,_⟩:=Ll.block (show n-2<nl by omega);have hlc:=Ll.ints.y7;have R1:=Ll.IJ.2.2.2 (n-2) O;have NK:=Ll.ints.y8;have hff:=hfl (n-2);have aa:=I (Ll.set (n-2) 0);rw[XH Pc]at aa;have hslt:∀k,k<wq.heap.size->(w6.setCell ⟨gl,n-2,none⟩ (U 0)).heap[k]?=wq.heap[k]?:=λk r7=>(If _ _ _ _ (show k≠gl by omega)).trans (Jg.block k r7)
  have Hg:=I (Jg.store (b:=gl) (n-2) LW (U 0));have VA:(n:Int)-1-1=((n-2:Nat):Int):=O;have⟨j,hj⟩:=j7 (n-2);rw[<-hj]at hff R1 Hg VA aa;have HJ:=I hj;have Jc:=I (show fe (k:Int).toNat n=(List.range k).map (eD n)++[List.replicate j 1++[0]]by unfold fe;rw[eI,hj]);have JK:j+2=n:=O;have Hn:=SW j nl;clear Ll hfl hslt hj hnl;have⟨w7,Ie⟩:=j7 (w6.setCell (IM gl j) (U 0));rw[<-Ie]at aa Hg;go_upto_region 12 with rfl;rw[<-Ie];clear Ie hff R1;have X7:=I (X5.trans Hg);have Fo:=X7.o9 KW.o;have FQ:=X7.o9 HK1.o;have HMV:=I (ol (p:=(k:Int)) (Kx.ext X7) O O J9);go_wp2_with rfl;refine hF HMV λw8 v8 Kv HXV=>?_;obtain⟨a8,n8,c8,rfl,OU⟩:=Kv.var;have Nt:=I Kv;have X8:=I (X7.trans HXV);have hj8:(j:Int)<(n8:Int):=by have h1:=OU.o;have h2:=HVL.o;unfold aY at h1;simp at h1;omega
  clear Kv Fo FQ;have Fo:=X8.o9 KW.o;have FQ:=X8.o9 HK1.o;have Lx:=I (iR (p:=(k:Int)) (Kx.ext X8));have⟨gv,HGG⟩:=Ok (bu (k:Int) V);rw[<-HGG.o]at Lx;go_wp2_with rfl;refine qc Lx λw9 hx9=>?_;go_wp2_with rfl;refine qc (cW gv _) λO6 MA=>?_;have hx:=hx9.trans MA;obtain⟨gc,rfl,PL,ZE,hgcl⟩:=(Nt.ext hx).block (show j<n8 by omega);have⟨MB,Lh⟩:=(Nt.ext hx).IJ.2.2.2 j O;have Re:=ZE (j*2);have QP:=ZE (j*2+1);have⟨hcc,Nx⟩:=Nt.rats.ath;have⟨wa,hwa⟩:=j7 ((O6.setCell (IM gc (j*2)) (U gv)).setCell (IM gc (j*2+1)) (U 1));have P8:=I (show D4 w7 wa by rw[hwa];exact((HXV.trans hx).store (b:=gc) (j*2) PL (U gv)).store (b:=gc) (j*2+1) PL (U 1))
  have Z:=I (show ZM wa W (GT gc n8 c8) (dU (k:Int) V)by
   have h3:=Dk (p:=(k:Int)) (V:=V) (by rw[HVL.o];exact Pc);rw[HVL.o]at h3;rw[hwa,<-h3,<-HJ.o,<-HGG.o];exact((Nt.ext hx).set (k:=j) (by have h1:=OU.o;omega) gv 1).mono X7.size)
  have aa:=I ((aa.ext P8).mono X5.size);have FM:=I (KU.ext (Hg.trans P8));have ahn:=I (show Ju vs (GT gl nl cl)from λi b hi hb F0=>by
   have h1:=((KU.rows.row i (by rw[<-KU.rows.len];exact hi)).lt b hb).2;simp only[Value.ownBlock,Pi]at F0;omega)
  have hEa:=X7.trans P8.o;have P':=I (show Lp vs<=1000 by rw[FM.IZ];omega);go_upto_region 14 with rfl;rw[<-hwa];clear hwa hx PL ZE hgcl Re QP MB Lh Fo FQ;have Fo:=hEa.o9 KW.o;have hE:=hEa.trans (D4.drew wa);refine k6 (S:=(λw'=>w'.cell? (IM w 0)=some (U k)/\D4 w w')) k8 ?_ (λH=>?_)
  ·exact⟨hE.o9 KW.o,B4.trans hE⟩
  refine Fn (FM.ext (D4.drew wa)) (aa.ext (D4.drew wa)) (Z.ext (D4.drew wa)) λFM aa Z=>?_;have⟨x0,B9⟩:=j7 wa.drew;rw[<-B9]at hE H FM aa Z;rw[<-B9];clear B9 Fo hEa;refine tk 0 ?_;refine tk 1 ?_;refine tk 4 ?_;refine tk 5 ?_;refine tk 9 ?_;refine TK (rs:=[2,7]) k8 j9 ?_;refine To (λK hK=>?_) ?_
  ·
   go_simp;refine hK.out _ _ ?_ (λH=>?_)
   ·exact RO
   clear hK K
   try simp only[Act.put,sA,sB,sC]
   have⟨x2,C9⟩:=j7 (x0.alloc (SH #[GT gl nl cl] 29));have e2:D4 x0 x2:=by rw[C9];exact ZL
   have Ly:=I (show x2.cell? (IM x0 0)=some (GT gl nl cl)by rw[C9];simp);rw[<-C9]at H;rw[<-C9];clear C9;have hE:=hE.trans e2;generalize x0.heap.size=g2 at Ly⊢;refine Fn (FM.ext e2) (aa.ext e2) (Z.ext e2) λFM aa Z=>?_;clear e2;refine TK (rs:=[3,7]) k8 j9 ?_;refine To (λK hK=>?_) ?_
   ·
    refine dz _ _ l7 W (FB a4 k c4) vs l7 FM.own _ _ 1 l7 Ly.o rfl (l8 P'.o) hE.size ?_;intro v3 x3 ho hg r';have hE:D4 W x3:=aj hE hg (λj hj=>(FM.own.lt j hj).1);have HR:=I ((FM.rows.IA FM.own hg).UB (aa.Mf So FM.own hg) ahn);have Z:=I (Z.Mf So FM.own hg);obtain⟨a9,n9,c9,rfl,Qe⟩:=ho.var;have HA:=I ho;clear ho hg r';go_wp2_with rfl;refine KO (an (hE.o9 KW) (B4.trans hE)) λH=>?_;refine TK (rs:=[6,7]) k8 j9 ?_;refine To (λK hK=>?_) ?_
    ·
     go_simp
     (go_at_call 203;refine hF (gD k 0 O) λx6 v6 Ll Jg=>?_;obtain⟨a6,n6,c6,rfl,Jy⟩:=Ll.var;have HB:=I Ll;have HZ:=I Jg;have Uy:=I hE;have hE:=hE.trans Jg;clear Ll)
     go_wp2_with rfl;refine KO (an (hE.o9 KW) (B4.trans hE)) λH=>?_;refine rd 7 λK hK=>?_;go_simp;refine hK.out _ _ ?_ (λH=>?_)
     ·exact RO
     clear hK K
     try simp only[Act.put,sA,sB,sC]
     have⟨x7,Jk⟩:=j7 (x6.alloc (SH #[U 1] 3));have e7:D4 x6 x7:=by rw[Jk];exact ZL
     have HF:=I (show y9 x7 W (GT x6 1 1) [1]by rw[Jk];exact y9.Yx _ _ _ hE.size);rw[<-Jk]at H;rw[<-Jk];clear Jk;have hE:=hE.trans e7;generalize x6.heap.size=g7 at HF⊢;have HZ:=I (HZ.trans e7);have HB:=I (HB.ext e7);clear e7;refine rd 8 λK hK=>?_;refine aO _ _ l7 x3 (FB a6 n6 c6) _ l7 HB.o _ 1 _ [1] l7 HF.ints t8 HZ.size ?_;intro v8 x8 ho hg r';have OP:=I (aj HZ.o hg λj hj=>(HB.lt j hj).1);have hE:=Uy.trans OP.o;obtain⟨a8,m8,c8',rfl,ahs⟩:=ho.var;have Pw:=I ho;have⟨FH,FL,Hs,JR⟩:=fS (E6 _ hE);clear ho hg r';go_wp2_with rfl;refine KO (an (hE.o9 KW) (B4.trans hE)) λH=>?_;refine Fn (show bZ x8 W (FB a9 n9 c9) _ from⟨_,HA.ext OP.o,HR.ext OP.o⟩) (Z.ext OP) (Pw.mono Uy.size) λTr HC8 N6=>?_;have ZR:=λu0 u1 u2=>(((HXG.trans hE).store (b:=w.heap.size+1) 0 (sw Oq) u0).store (b:=w.heap.size+1) 1 (sw Oq) u1).store (b:=w.heap.size+1) 2 (sw Oq) u2;refine tk 10 ?_;refine rd 11 λK hK=>?_;go_simp;refine hK.out _ _ ?_ (λH=>?_)
     ·exact U2
     clear hK K
     try simp only[Act.put,sA,sB,sC]
     refine tk 12 ?_;refine ST k8 ?_ _;go_wp2;refine GE (v:=.tuple #[JI a9 n9 c9 a8 m8 c8' (some (IM gc 0)) n8 c8,ato true]) NM rfl ⟨⟨_,_,_,_,_,_,_,_,_,rfl,λ_=>nk Jr N6.o HC8.o (λb hb=>jH _ _ _ _ (l8 Fp.o))⟩,(((B4.trans hE).store 0 (bq _) _).store 1 (bq _) _).store 2 (bq _) _⟩
    refine To (λK hK=>?_) R7
       
    go_simp;refine hK.out _ _ ?_ (λH=>?_)
    ·exact RO
    clear hK K
    try simp only[Act.put,sA,sB,sC]
    have⟨x7,Jk⟩:=j7 (x3.alloc (SH #[U 1] 3));have e7:D4 x3 x7:=by rw[Jk];exact ZL
    have HF:=I (show y9 x7 W (GT x3 1 1) [1]by rw[Jk];exact y9.Yx _ _ _ hE.size);rw[<-Jk]at H;rw[<-Jk];clear Jk;have hE:=hE.trans e7;generalize x3.heap.size=g7 at HF⊢;refine Fn (HA.ext e7) (HR.ext e7) (Z.ext e7) λHA HR Z=>?_;clear e7;refine rd 6 λK hK=>?_;go_simp
    (go_at_call 203;refine hF (gD k 0 O) λx6 v6 Ll Jg=>?_;obtain⟨a6,n6,c6,rfl,Jy⟩:=Ll.var;have HB:=I Ll;have HZ:=I Jg;have Uy:=I hE;have hE:=hE.trans Jg;have HF:=I (HF.ext Jg);clear Ll)
    go_wp2_with rfl;refine KO (an (hE.o9 KW) (B4.trans hE)) λH=>?_;refine rd 8 λK hK=>?_;refine aO _ _ l7 x7 (FB a6 n6 c6) _ l7 HB.o _ 1 _ [1] l7 HF.ints t8 HZ.size ?_;intro v8 x8 ho hg r';have OP:=I (aj HZ.o hg λj hj=>(HB.lt j hj).1);have hE:=Uy.trans OP.o;obtain⟨a8,m8,c8',rfl,ahs⟩:=ho.var;have Pw:=I ho;have⟨FH,FL,Hs,JR⟩:=fS (E6 _ hE);clear ho hg r';go_wp2_with rfl;refine KO (an (hE.o9 KW) (B4.trans hE)) λH=>?_;refine Fn (show bZ x8 W (FB a9 n9 c9) _ from⟨_,HA.ext OP.o,HR.ext OP.o⟩) (Z.ext OP) (Pw.mono Uy.size) λTr HC8 N6=>?_;have ZR:=λu0 u1 u2=>(((HXG.trans hE).store (b:=w.heap.size+1) 0 (sw Oq) u0).store (b:=w.heap.size+1) 1 (sw Oq) u1).store (b:=w.heap.size+1) 2 (sw Oq) u2;refine tk 10 ?_;refine rd 11 λK hK=>?_;go_simp;refine hK.out _ _ ?_ (λH=>?_)
    ·exact U2
    clear hK K
    try simp only[Act.put,sA,sB,sC]
    refine tk 12 ?_;refine ST k8 ?_ _;go_wp2;refine GE (v:=.tuple #[JI a9 n9 c9 a8 m8 c8' (some (IM gc 0)) n8 c8,ato true]) NM rfl ⟨⟨_,_,_,_,_,_,_,_,_,rfl,λ_=>nk Jr N6.o HC8.o (λb hb=>jH _ _ _ _ (l8 Fp.o))⟩,(((B4.trans hE).store 0 (bq _) _).store 1 (bq _) _).store 2 (bq _) _⟩
   refine To (λK hK=>?_) R7
      
   go_simp;refine hK.out _ _ ?_ (λH=>?_)
   ·exact RO
   clear hK K
   try simp only[Act.put,sA,sB,sC]
   have⟨x7,Jk⟩:=j7 (x2.alloc (SH #[U 1] 3));have e7:D4 x2 x7:=by rw[Jk];exact ZL
   have HF:=I (show y9 x7 W (GT x2 1 1) [1]by rw[Jk];exact y9.Yx _ _ _ hE.size);rw[<-Jk]at H;rw[<-Jk];clear Jk;have hE:=hE.trans e7;generalize x2.heap.size=g7 at HF⊢;refine Op (FM.ext e7) (e7.o9 Ly) (aa.ext e7) (Z.ext e7) λFM Ly aa Z=>?_;clear e7;refine rd 3 λK hK=>?_;refine dz _ _ l7 W (FB a4 k c4) vs l7 FM.own _ _ 1 l7 Ly.o rfl (l8 P'.o) hE.size ?_;intro v3 x3 ho hg r';have hE:D4 W x3:=aj hE hg (λj hj=>(FM.own.lt j hj).1);refine Fn ((FM.rows.IA FM.own hg).UB (aa.Mf So FM.own hg) ahn) (Z.Mf So FM.own hg) (HF.Mf So FM.own hg) λHR Z HF=>?_;obtain⟨a9,n9,c9,rfl,Qe⟩:=ho.var;have HA:=I ho;clear ho hg r';go_wp2_with rfl;refine KO (an (hE.o9 KW) (B4.trans hE)) λH=>?_;refine rd 6 λK hK=>?_;go_simp
   (go_at_call 203;refine hF (gD k 0 O) λx6 v6 Ll Jg=>?_;obtain⟨a6,n6,c6,rfl,Jy⟩:=Ll.var;have HB:=I Ll;have HZ:=I Jg;have Uy:=I hE;have hE:=hE.trans Jg;have HF:=I (HF.ext Jg);clear Ll)
   go_wp2_with rfl;refine KO (an (hE.o9 KW) (B4.trans hE)) λH=>?_;refine rd 8 λK hK=>?_;refine aO _ _ l7 x3 (FB a6 n6 c6) _ l7 HB.o _ 1 _ [1] l7 HF.ints t8 HZ.size ?_;intro v8 x8 ho hg r';have OP:=I (aj HZ.o hg λj hj=>(HB.lt j hj).1);have hE:=Uy.trans OP.o;obtain⟨a8,m8,c8',rfl,ahs⟩:=ho.var;have Pw:=I ho;have⟨FH,FL,Hs,JR⟩:=fS (E6 _ hE);clear ho hg r';go_wp2_with rfl;refine KO (an (hE.o9 KW) (B4.trans hE)) λH=>?_;refine Fn (show bZ x8 W (FB a9 n9 c9) _ from⟨_,HA.ext OP.o,HR.ext OP.o⟩) (Z.ext OP) (Pw.mono Uy.size) λTr HC8 N6=>?_;have ZR:=λu0 u1 u2=>(((HXG.trans hE).store (b:=w.heap.size+1) 0 (sw Oq) u0).store (b:=w.heap.size+1) 1 (sw Oq) u1).store (b:=w.heap.size+1) 2 (sw Oq) u2;refine tk 10 ?_;refine rd 11 λK hK=>?_;go_simp;refine hK.out _ _ ?_ (λH=>?_)
   ·exact U2
   clear hK K
   try simp only[Act.put,sA,sB,sC]
   refine tk 12 ?_;refine ST k8 ?_ _;go_wp2;refine GE (v:=.tuple #[JI a9 n9 c9 a8 m8 c8' (some (IM gc 0)) n8 c8,ato true]) NM rfl ⟨⟨_,_,_,_,_,_,_,_,_,rfl,λ_=>nk Jr N6.o HC8.o (λb hb=>jH _ _ _ _ (l8 Fp.o))⟩,(((B4.trans hE).store 0 (bq _) _).store 1 (bq _) _).store 2 (bq _) _⟩
  refine To (λK hK=>?_) R7
     
  go_simp;refine hK.out _ _ ?_ (λH=>?_)
  ·exact RO
  clear hK K
  try simp only[Act.put,sA,sB,sC]
  have⟨x7,Jk⟩:=j7 (x0.alloc (SH #[U 1] 3));have e7:D4 x0 x7:=by rw[Jk];exact ZL
  have HF:=I (show y9 x7 W (GT x0 1 1) [1]by rw[Jk];exact y9.Yx _ _ _ hE.size);rw[<-Jk]at H;rw[<-Jk];clear Jk;have hE:=hE.trans e7;generalize x0.heap.size=g7 at HF⊢;refine Fn (FM.ext e7) (aa.ext e7) (Z.ext e7) λFM aa Z=>?_;clear e7;refine rd 2 λK hK=>?_;go_simp;refine hK.out _ _ ?_ (λH=>?_)
  ·exact RO
  clear hK K
  try simp only[Act.put,sA,sB,sC]
  have⟨x2,C9⟩:=j7 (x7.alloc (SH #[GT gl nl cl] 29));have e2:D4 x7 x2:=by rw[C9];exact ZL
  have Ly:=I (show x2.cell? (IM x7 0)=some (GT gl nl cl)by rw[C9];simp);rw[<-C9]at H;rw[<-C9];clear C9;have hE:=hE.trans e2;generalize x7.heap.size=g2 at Ly⊢;refine Op (FM.ext e2) (aa.ext e2) (Z.ext e2) (HF.ext e2) λFM aa Z HF=>?_;clear e2;refine rd 3 λK hK=>?_;refine dz _ _ l7 W (FB a4 k c4) vs l7 FM.own _ _ 1 l7 Ly.o rfl (l8 P'.o) hE.size ?_;intro v3 x3 ho hg r';have hE:D4 W x3:=aj hE hg (λj hj=>(FM.own.lt j hj).1);refine Fn ((FM.rows.IA FM.own hg).UB (aa.Mf So FM.own hg) ahn) (Z.Mf So FM.own hg) (HF.Mf So FM.own hg) λHR Z HF=>?_;obtain⟨a9,n9,c9,rfl,Qe⟩:=ho.var;have HA:=I ho;clear ho hg r';go_wp2_with rfl;refine KO (an (hE.o9 KW) (B4.trans hE)) λH=>?_;refine rd 6 λK hK=>?_;go_simp
  (go_at_call 203;refine hF (gD k 0 O) λx6 v6 Ll Jg=>?_;obtain⟨a6,n6,c6,rfl,Jy⟩:=Ll.var;have HB:=I Ll;have HZ:=I Jg;have Uy:=I hE;have hE:=hE.trans Jg;have HF:=I (HF.ext Jg);clear Ll)
  go_wp2_with rfl;refine KO (an (hE.o9 KW) (B4.trans hE)) λH=>?_;refine rd 8 λK hK=>?_;refine aO _ _ l7 x3 (FB a6 n6 c6) _ l7 HB.o _ 1 _ [1] l7 HF.ints t8 HZ.size ?_;intro v8 x8 ho hg r';have OP:=I (aj HZ.o hg λj hj=>(HB.lt j hj).1);have hE:=Uy.trans OP.o;obtain⟨a8,m8,c8',rfl,ahs⟩:=ho.var;have Pw:=I ho;have⟨FH,FL,Hs,JR⟩:=fS (E6 _ hE);clear ho hg r';go_wp2_with rfl;refine KO (an (hE.o9 KW) (B4.trans hE)) λH=>?_;refine Fn (show bZ x8 W (FB a9 n9 c9) _ from⟨_,HA.ext OP.o,HR.ext OP.o⟩) (Z.ext OP) (Pw.mono Uy.size) λTr HC8 N6=>?_;have ZR:=λu0 u1 u2=>(((HXG.trans hE).store (b:=w.heap.size+1) 0 (sw Oq) u0).store (b:=w.heap.size+1) 1 (sw Oq) u1).store (b:=w.heap.size+1) 2 (sw Oq) u2;refine tk 10 ?_;refine rd 11 λK hK=>?_;go_simp;refine hK.out _ _ ?_ (λH=>?_)
  ·exact U2
  clear hK K
  try simp only[Act.put,sA,sB,sC]
  refine tk 12 ?_;refine ST k8 ?_ _;go_wp2;refine GE (v:=.tuple #[JI a9 n9 c9 a8 m8 c8' (some (IM gc 0)) n8 c8,ato true]) NM rfl ⟨⟨_,_,_,_,_,_,_,_,_,rfl,λ_=>nk Jr N6.o HC8.o (λb hb=>jH _ _ _ _ (l8 Fp.o))⟩,(((B4.trans hE).store 0 (bq _) _).store 1 (bq _) _).store 2 (bq _) _⟩
 have hp2':(q:Int)<2:=O;have ahp:=I (λe w' h1 h2=>Jn.o e w' h1 h2 (by rw[RK Qo];rfl));clear Qo;go_in
 go_upto_region 1 with rfl;rw[<-hW];clear hW;have k0:=KW.o;have k1:=HK1.o;go_wp2_with rfl;refine qc Z λw1 B0=>?_;clear k0 k1;have Fo:=B0.o9 KW.o;have⟨FH,FL,Hs,JR⟩:=fS (E6 w1 B0);have A6:=I B0;go_wp2;refine GE (v:=.tuple #[.agg #[d9,d9,d9],ato false]) NM rfl (ahp _ _ ((((B4.trans A6).store 0 O _).store 1 O _).store 2 O _) rfl)
theorem IA{w':J}{K:Nat}{a1 a2 a4 Z a0 v0 v1 v2 v3 v4:atY}{P:Prop}{Q:Prop}(h:w'.cell? (IM K 1)=some a1/\w'.cell? (IM K 2)=some a2/\w'.cell? (IM K 4)=some a4/\w'.cell? (IM K 5)=some Z/\w'.cell? (IM r 0)=some a0/\P)(hb:r+1<K)(hq:Q):
 let y:=((((w'.setCell (IM (r+1) 0) v0).setCell (IM (r+1) 1) v1).setCell (IM (r+1) 2) v2).setCell (IM (r+1) 3) v3).setCell (IM (r+1) 4) v4
 y.cell? (IM K 1)=some a1/\y.cell? (IM K 2)=some a2/\y.cell? (IM K 4)=some a4/\y.cell? (IM K 5)=some Z/\y.cell? (IM r 0)=some a0/\Q:=by
 have H:∀(x:J) (b o c:Nat) (v:atY),b≠r+1->(x.setCell (IM (r+1) c) v).cell? (IM b o)=x.cell? (IM b o):=λx b o c v G=>by have:=If x (IM (r+1) c) b v G;unfold World.cell?;simp only[this]
 have k5:∀b o,b≠r+1->(((((w'.setCell (IM (r+1) 0) v0).setCell (IM (r+1) 1) v1).setCell (IM (r+1) 2) v2).setCell (IM (r+1) 3) v3).setCell (IM (r+1) 4) v4).cell? (IM b o)=w'.cell? (IM b o):=λb o G=>by
  rw[H _ _ _ _ _ G,H _ _ _ _ _ G,H _ _ _ _ _ G,H _ _ _ _ _ G,H _ _ _ _ _ G]
 obtain⟨h1,h2,h3,h4,h5,_⟩:=h;exact⟨(k5 _ _ O).trans h1,(k5 _ _ O).trans h2,(k5 _ _ O).trans h3,(k5 _ _ O).trans h4,(k5 _ _ O).trans h5,hq⟩
theorem sI{w:J}{p:Int}{cap:Nat}(h:d6 w a n cap V):
 Calls Tryz.prog 60 #[Id p a n cap] w λe w'=>jw w' w p V e/\D4 w w':=by
 have⟨W,hW⟩:=j7 ((w.alloc (SH #[U p,FB a n cap] 31)).alloc (SH #[ato false,U 0,U 0,d9,d9] 85));have Oa:W.heap.size=w.heap.size+2:=by rw[hW];simp
 have hX:D4 w W:=by rw[hW];exact ZL.trans ZL
 refine y5 (show W.heap[w.heap.size+1]?=some (SH #[ato false,U 0,U 0,d9,d9] 85 (0,0))by rw[hW];exact LE j9) (show W.cell? (IM w 0)=some (U p)by rw[hW];exact D4.o9 ZL j9) (show W.cell? (IM w 1)=some (FB a n cap)by rw[hW];exact D4.o9 ZL j9) (h.ext hX) hX h.hlen λE6 Kz K9 HI HX HVL=>?_;refine Op (DD (p:=p) HI) (λ(w':J) (hx:D4 W w') (v0 v1 v2 v3 v4:atY)=>P4 (RM ((hx.block _ O).trans E6) v0 v1 v2 v3 v4)) (λ(w':J) (hx:D4 W w') (v0 v1 v2 v3 v4:atY)=>pP (r:=w.heap.size+1) (HX.trans hx) (bq _) v0 v1 v2 v3 v4) (λ(w':J) (hx:D4 W w')=>P4 ((hx.block _ O).trans E6)) λGq GK Lz MP=>?_;cases hgo:ak p V&&decide (2<=p)
 ·have qq0:=@sc;exact XS
 rw[hgo]at Gq;have⟨Ti,Qo⟩:=fg hgo;have Qo:=nR Qo;have⟨r,FH⟩:=j7 (bH az (fe p.toNat n) (gm p.toNat) (dU p V));have GV:=I FH;have GD:=I (show jh p V=r by unfold jh;rw[HVL.o,<-FH]);have HLO:=I (show KC p V=decide (r.status=1)by unfold KC;rw[hgo,GD.o];rfl);obtain⟨q,Fw,I6,Lk,SI,_,Om⟩:=ap Ti;subst Fw;have JJ:2<=q:=O;clear FH;go_in
 go_wp2_with rfl;rw[<-hW];refine Gq.mono ?_;rintro e w1 ⟨⟨la,Mu,My,lb,Ms,Mx,lc,Mr,Mw,rfl,Qs⟩,hx⟩;unfold JI;have⟨w2,hw2⟩:=j7 (w1.alloc (bT la Mu My lb Ms Mx lc Mr Mw));have C9:D4 w1 w2:=by rw[hw2];exact ZL
 have X2:=I (hx.trans C9);have GG:=I (lQ ((Qs rfl).ext C9));rw[<-GV.o]at GG;have PR:w2.heap[w1.heap.size]?=some (SH #[FB la Mu My,FB lb Ms Mx,FB lc Mr Mw] 124 (0,0)):=by rw[hw2];exact LE rfl
 have⟨t0,t1,t2⟩:=mc PR;go_upto_region 2 with rfl;rw[<-hw2];clear hw2 hW;go_wp2_with rfl;refine GG.mono ?_
 have Hx:=I (λ(hs:r.status=1)=>show Lp r.Y=q+1/\A5 r.value=true/\∀k,k<Lp r.Y->A5 (r.Y[k]?.getD (0,0))=true by
  have:=fD (bound:=az) (A:=fe (q:Int).toNat n) (B:=gm (q:Int).toNat) (C:=dU (q:Int) V) Rl;rw[<-GV.o]at this;refine⟨?_,this.2.2.2.2⟩;rw[this.2.2.2.1,eI];unfold gm;simp)
 rintro e w3 ⟨⟨xa,H,Z,ya,yn,yc,ra,rn,rc,rfl,LV⟩,C0⟩;have⟨w4,Hr⟩:=j7 (w3.alloc (de r xa H Z ya yn yc ra rn rc));have E4:D4 w3 w4:=by rw[Hr];exact ZL
 refine Fn ((X2.trans C0).trans E4) (LV.here.ext E4) (show w4.heap[w3.heap.size]?=some (de r xa H Z ya yn yc ra rn rc)by rw[Hr];exact LE rfl) λX4 GS FG=>?_;obtain⟨rs,rX,rY,rr,⟨FR,Fz⟩,rp⟩:=r;unfold JA;go_upto_region 5 with rfl;rw[<-Hr];have Lt:=I (show w.heap.size+1<w3.heap.size by have:=(X2.trans C0).size;omega);clear Hr;generalize w3.heap.size=b5 at FG Lt⊢;have⟨l0,l1,l2,l3,l4,l5,l6,lf⟩:=FN FG.o
 try simp only at l0 l1 l2 l3 l4 l5 l6
 by_cases hs:rs=1
 ·subst hs;have⟨Oz,S',Lg⟩:=Hx.o rfl
  try simp only at Oz S' Lg
  have Ha:=aV S';have HNG:=I (λw'=>fc FR Fz w' O O);have HYV:=I Lg
  try simp only at Ha
  have Tu:e9 (i8 w4 ya yn yc rY):=GS.y;have OQ:=I (show yn=q+1 by rw[<-Oz];exact GS.y.hlen.symm);have hqy:q<=yn:=l8 OQ.o;have⟨hyc,hym⟩:=GS.y.ath;have hqyc:q<=yc:=O;have⟨nv,hnv⟩:=j7 (-FR);simp only[<-hnv]at HNG;have HNV:=I hnv;have U':=I (λ(w':J) (hx:D4 w4 w')=>nh ((Tu.ext hx).take hqy) O (λk=>by
   by_cases G:k<Lp (rY.take q)
   ·rw[jt]at G;have:=aV (HYV k O);rw[V0 O];omega
   rw[mq O];simp))
  have c0:=X4.o9 Kz.o;have G:=D4.drew w4;have Ut:=I (λ(w':J) (hx:D4 w4 w')=>(⟨hx.o9 l1,hx.o9 l2,hx.o9 l4,hx.o9 l5,hx.o9 c0,HX.trans (X4.trans hx)⟩:w'.cell? (IM b5 1)=some (FB xa H Z)/\w'.cell? (IM b5 2)=some (FB ya yn yc)/\w'.cell? (IM b5 4)=some (U FR)/\w'.cell? (IM b5 5)=some (U Fz)/\w'.cell? (IM w 0)=some (U q)/\D4 w w'));have Oc:=X4.size;clear Oz hnv;go_upto_region 7 with rfl;refine kp Ut G λr9=>?_
  refine tk 0 ?_;refine tk 1 ?_;refine Mp ⟨?_⟩;refine tk 7 ?_;refine tk 9 ?_;refine tk 10 ?_;refine rd 2 λK hK=>?_;go_simp
  (go_at_call 126;refine i6 (HNG _) λw6 Jg=>?_;have G:=G.trans Jg)
  go_wp2_with rfl;refine KO (Ut _ G) λr9=>?_;refine rd 8 λK hK=>?_;go_simp
  (go_at_call 127;refine PP (U' _ G) λw7 v7 Sz Jk=>?_;obtain⟨pa,pn,pc,rfl,Ma⟩:=Sz.var;have Kb:=I (Sz.mono G.size);have G:=G.trans Jk;have⟨q0,q1,q2,q3,q4,qf⟩:=MP.o w7 (X4.trans G))
  go_wp2_with rfl;refine KO (Ut _ G) λr9=>?_;have HPW:=I (show ZM (((((w7.setCell (IM (w+1) 0) (ato true)).setCell (IM (w+1) 1) (U nv)).setCell (IM (w+1) 2) (U Fz)).setCell (IM (w+1) 3) (FB pa pn pc)).setCell (IM (w+1) 4) (FB xa H Z)) w (FB pa pn pc) (Oy (q:Int) V)by
   have e:Oy (q:Int) V=(rY.take q).map D2:=by unfold Oy;rw[GD.o];rfl
   rw[e];have Wb:=X4.size;exact(Kb.keep λb hb=>by
    have:=(Kb.lt b hb).1;rw[If _ _ _ _ t8,If _ _ _ _ t8,If _ _ _ _ t8,If _ _ _ _ t8,If _ _ _ _ t8]).mono O)
  obtain⟨z0,z1,z2,z3,z4,_⟩:=GK.o w7 (X4.trans G) (ato true) (U nv) (U Fz) (FB pa pn pc) (FB xa H Z);have hZ:=Lz.o w7 (X4.trans G) (ato true) (U nv) (U Fz) (FB pa pn pc) (FB xa H Z);have HS12:=I (IA (v0:=ato true) (v1:=U nv) (v2:=U Fz) (v3:=FB pa pn pc) (v4:=FB xa H Z) (Ut _ G) Lt.o hZ);refine tk 11 ?_;refine rd 12 λK hK=>?_;go_simp;refine KO HS12.o λr9=>?_;refine ST k8 ?_ _;go_wp2;refine GE (v:=.agg #[ato true,U nv,U Fz,FB pa pn pc,FB xa H Z]) (by simp[results,sc,go_sem,q0,q1,q2,q3,q4,z0,z1,z2,z3,z4]) rfl ⟨⟨_,_,_,_,_,_,_,_,by rw[HLO.o];rfl,λ_=>⟨by rw[GD.o,HNV.o];rfl,HPW⟩⟩,hZ⟩
 have qq0:=@sc;exact U8
end
section
def AF(p:Int)(V:o7):∀(f:Nat) (L:l9) (k:Nat),(LM p V f L k).pt.length<=p.toNat/\(LM p V f L k).st.length<=Lp L+f*Lp V
 | 0,L,k=>⟨ef _,ef _⟩
 | f+1,L,k=>by
   have G:=AF p V f (eu V L (cY p.toNat V L)) (k+1);have hl:Lp (eu V L (cY p.toNat V L))<=Lp L+Lp V:=by
    unfold eu;rw[ar];have h1:=nz (GM V L) (cY p.toNat V L) (Lp (GM V L));have h2:Lp (GM V L)<=Lp V-2:=eJ L (Lp V-2);omega
   have hm:(f+1)*Lp V=f*Lp V+Lp V:=LL _ _;unfold LM;split
   ·split
    ·refine⟨?_,?_⟩
     ·show((_:o3).map D2).length<=_;rw[b7,jt];omega
     show(eu V L (cY p.toNat V L)).length<=_;omega
    exact⟨G.1,by omega⟩
   exact⟨ef _,ef _⟩
def ux(p:Int)(V:o7):(JX p V).pt.length<=5/\(JX p V).st.length<=2000:=by
 unfold JX;split
 ·next h =>
  split
  ·exact⟨by show 1<=5;omega,ef _⟩
  obtain⟨_,G,_,_,h5,_⟩:=kJ h;have hb:=AF p V (Lp (GM V [])+1) [] 0;have h2:Lp (GM V [])<=Lp V-2:=eJ [] (Lp V-2);have h3:(Lp (GM V [])+1)*Lp V<=32*32:=yy O G;simp only[D1]at hb;exact⟨by omega,by omega⟩
 exact⟨ef _,ef _⟩
end
section
def rx(p:Int)(V:o7)(h:KC p V=true):Lp (Oy p V)<=5:=by
 unfold KC at h;obtain⟨q,G,_,h5,_⟩:=ap (fg (fg h).1).1;unfold Oy;rw[b7,jt,G,eI];omega
section
variable{w:J}{p:Int}{a b:o6}{n cap m dap:Nat}{V:o7}{X:o3}{base:Nat}
def Rs(h:σ:=by
 clear ho hx Gc c0 c1 c2 cf r0 r1 r2 rf;have⟨r0,r1,r2,rf⟩:=Hq.r.c;have⟨tr,G5⟩:=j7 (bs R.2);have⟨rp,I5⟩:=j7 R.1.p;rw[<-G5,<-I5];have Kr:=I G5;have NW:=I I5;clear G5 I5;have⟨z0,z1,z2,HZ,XZ⟩:=Hq.FP Il.o rp;go_wp2;refine GE cr rfl ⟨D7.re Lu.o NW.o Kr.o HZ.o,XZ⟩
 ):σ:=h
theorem XT (hO : aG w base a n cap b m dap V X) (hb : base <= w.heap.size) (htab : tIw w) (t : List UInt8) (h : WP t = 0) :
 Calls prog 26 #[sess p a n cap b m dap,atr (bs t)] w λe w'=>D7 w' base e (GZ ⟨p,V,X⟩ 0)/\D4 w w':=by
 have⟨e0,e1,e2,e3,e4,e5,e6,e7,e8⟩:=w9 t;simp only[h,Nat.reduceBEq]at e0 e1 e2 e3 e4 e5 e6 e7 e8;generalize bs t=tt at e0 e1 e2 e3 e4 e5 e6 e7 e8⊢;have⟨W,hW,HT,HO,⟨c0,c1,c2,cf⟩,r0,r1,r2,rf⟩:=fY p hO;have HTB:=I htab;have Kt:=I hb;have GG:=mG (w:=W) (x:=p) HO.v.ints;have⟨ok,D9⟩:=j7 (ak p V);have⟨P,hP⟩:=j7 (fW p V);have Ip:=I (show GZ ⟨p,V,X⟩ 0=dR ⟨p,V,X⟩ P ok by rw[D9,hP];rfl);have Ka:=I (show Lp P<=5 by rw[hP];exact pr p V);rw[<-D9,<-hP]at GG;have GG:=I GG;clear D9 hP;go_in
 go_upto_region 1 with rfl;rw[<-hW];clear hW;go_wp2_with rfl;refine PP GG λw1 v ho hx=>?_;obtain⟨pa,pn,pc,rfl,HN⟩:=ho.var;have KT:e9 (ok=true->ZM w1 base (FB pa pn pc) P/\pn<=100000):=I λ_=>⟨ho.mono (bR Kt.o HT.x.size),by have h1:=HN.o;have h2:=Ka.o;omega⟩;have⟨HT1,HO1,⟨c0,c1,c2,cf⟩,r0,r1,r2,rf⟩:=WU HT HO hx;have⟨R,hR⟩:=j7 (dR ⟨p,V,X⟩ P ok);have Gc:=I (kl (p:=p) HO1.o (pa:=pa) (pn:=pn) (pc:=pc) (P:=P) (ok:=ok) KT.o (dP HTB.o HT1.x));rw[<-hR]at Gc;have Lu:=I (Ip.trans hR.symm);clear hR;go_wp2_with rfl;refine Gc.mono ?_;rintro e w9 ⟨⟨a',n',k',b',m',d',rfl,ho⟩,hx⟩;have Hq:=I (HT1.ext hx);have Il:=I ho;have qq0:=@gn;exact Rs
theorem cT (hO : aG w base a n cap b m dap V X) (hb : base <= w.heap.size) (htab : tIw w) (t : List UInt8) (h : WP t = 1) :
 Calls prog 26 #[sess p a n cap b m dap,atr (bs t)] w λe w'=>D7 w' base e (GZ ⟨p,V,X⟩ 1)/\D4 w w':=by
 have⟨e0,e1,e2,e3,e4,e5,e6,e7,e8⟩:=w9 t;simp only[h,Nat.reduceBEq]at e0 e1 e2 e3 e4 e5 e6 e7 e8;generalize bs t=tt at e0 e1 e2 e3 e4 e5 e6 e7 e8⊢;have⟨W,hW,HT,HO,⟨c0,c1,c2,cf⟩,r0,r1,r2,rf⟩:=fY p hO;have HTB:=I htab;have Kt:=I hb;have GG:=ug (w:=W) (x:=p) HO.v.ints;have⟨ok,D9⟩:=j7 (ak p V);have⟨P,hP⟩:=j7 (it p V);have Ip:=I (show GZ ⟨p,V,X⟩ 1=dR ⟨p,V,X⟩ P ok by rw[D9,hP];rfl);have Ka:=I (show Lp P<=5 by rw[hP];exact oC p V);rw[<-D9,<-hP]at GG;have GG:=I GG;clear D9 hP;go_in
 go_upto_region 1 with rfl;rw[<-hW];clear hW;go_wp2_with rfl;refine PP GG λw1 v ho hx=>?_;obtain⟨pa,pn,pc,rfl,HN⟩:=ho.var;have KT:e9 (ok=true->ZM w1 base (FB pa pn pc) P/\pn<=100000):=I λ_=>⟨ho.mono (bR Kt.o HT.x.size),by have h1:=HN.o;have h2:=Ka.o;omega⟩;have⟨HT1,HO1,⟨c0,c1,c2,cf⟩,r0,r1,r2,rf⟩:=WU HT HO hx;have⟨R,hR⟩:=j7 (dR ⟨p,V,X⟩ P ok);have Gc:=I (kl (p:=p) HO1.o (pa:=pa) (pn:=pn) (pc:=pc) (P:=P) (ok:=ok) KT.o (dP HTB.o HT1.x));rw[<-hR]at Gc;have Lu:=I (Ip.trans hR.symm);clear hR;go_wp2_with rfl;refine Gc.mono ?_;rintro e w9 ⟨⟨a',n',k',b',m',d',rfl,ho⟩,hx⟩;have Hq:=I (HT1.ext hx);have Il:=I ho;have qq0:=@gn;exact Rs
theorem cd (hO : aG w base a n cap b m dap V X) (hb : base <= w.heap.size) (htab : tIw w) (t : List UInt8) (h : WP t = 2) :
 Calls prog 26 #[sess p a n cap b m dap,atr (bs t)] w λe w'=>D7 w' base e (GZ ⟨p,V,X⟩ 2)/\D4 w w':=by
 have⟨e0,e1,e2,e3,e4,e5,e6,e7,e8⟩:=w9 t;simp only[h,Nat.reduceBEq]at e0 e1 e2 e3 e4 e5 e6 e7 e8;generalize bs t=tt at e0 e1 e2 e3 e4 e5 e6 e7 e8⊢;have⟨W,hW,HT,HO,⟨c0,c1,c2,cf⟩,r0,r1,r2,rf⟩:=fY p hO;have HTB:=I htab;have Kt:=I hb;have GG:=sI (w:=W) (p:=p) HO.v.ints;have Ka:=rx p V;unfold jw at GG;have⟨ok,D9⟩:=j7 (KC p V);have⟨P,hP⟩:=j7 (Oy p V);have Ip:=I (show GZ ⟨p,V,X⟩ 2=dR ⟨p,V,X⟩ P ok by rw[D9,hP];rfl);rw[<-D9,<-hP]at GG Ka;have GG:=I GG;have Ka:=I Ka;clear D9 hP;go_in
 go_upto_region 1 with rfl;rw[<-hW];clear hW;go_wp2_with rfl;refine GG.mono ?_;rintro e w1 ⟨⟨x,y,pa,pn,pc,wa,wn,wc,rfl,ho⟩,hx⟩;refine Op (show ok=true->ZM (w1.alloc (SH #[ato ok,U x,U y,FB pa pn pc,FB wa wn wc] 85)) base (FB pa pn pc) P/\pn<=100000 from λhh=>⟨((ho hh).2.ext ZL).mono (bR Kt.o HT.x.size),by have h1:=(ho hh).2.rats.hlen;have h2:=Ka.o hh;omega⟩) (ah w1 (SH #[ato ok,U x,U y,FB pa pn pc,FB wa wn wc] 85) _ rfl) ((HT.ext hx).ext (D4.alloc w1 (SH #[ato ok,U x,U y,FB pa pn pc,FB wa wn wc] 85))) ((HO.ext hx).ext (D4.alloc w1 (SH #[ato ok,U x,U y,FB pa pn pc,FB wa wn wc] 85))) λKT HB HT1 HO1=>?_;have⟨w2,hw2⟩:=j7 (w1.alloc (SH #[ato ok,U x,U y,FB pa pn pc,FB wa wn wc] 85));rw[<-hw2]at KT HB HT1 HO1;go_upto_region 10 with rfl;rw[<-hw2];clear hw2;have⟨d0,d1,d2,d3,d4,df⟩:=P4 HB.o;have⟨c0,c1,c2,cf⟩:=HT1.s.c;have⟨r0,r1,r2,rf⟩:=HT1.r.c;have⟨R,hR⟩:=j7 (dR ⟨p,V,X⟩ P ok)
 have Gc:=I (kl (p:=p) HO1.o (pa:=pa) (pn:=pn) (pc:=pc) (P:=P) (ok:=ok) KT.o (dP HTB.o HT1.x));rw[<-hR]at Gc;have Lu:=I (Ip.trans hR.symm);clear hR;go_wp2_with rfl;refine Gc.mono ?_;rintro e w9 ⟨⟨a',n',k',b',m',d',rfl,ho⟩,hx⟩;have Hq:=I (HT1.ext hx);have Il:=I ho;have qq0:=@gn;exact Rs
theorem Zl (hO : aG w base a n cap b m dap V X) (hb : base <= w.heap.size) (htab : tIw w) (t : List UInt8) (h : WP t = 3) :
 Calls prog 26 #[sess p a n cap b m dap,atr (bs t)] w λe w'=>D7 w' base e (GZ ⟨p,V,X⟩ 3)/\D4 w w':=by
 have⟨e0,e1,e2,e3,e4,e5,e6,e7,e8⟩:=w9 t;simp only[h,Nat.reduceBEq]at e0 e1 e2 e3 e4 e5 e6 e7 e8;generalize bs t=tt at e0 e1 e2 e3 e4 e5 e6 e7 e8⊢;have⟨W,hW,HT,HO,⟨c0,c1,c2,cf⟩,r0,r1,r2,rf⟩:=fY p hO;have HTB:=I htab;have Kt:=I hb;have GG:=sJ (w:=W) (p:=p) HO.v.ints;have Ka:=(ux p V).1;have⟨N,hN⟩:=j7 (JX p V);have Ip:=show GZ ⟨p,V,X⟩ 3=dR ⟨p,V,X⟩ N.pt N.ok by rw[hN];rfl
 rw[<-hN]at GG Ka;clear hN;obtain⟨ok,P,st,ro⟩:=N;refine Fn GG (show Lp P<=5 from Ka) (show GZ ⟨p,V,X⟩ 3=dR ⟨p,V,X⟩ P ok from Ip) λGG Ka Ip=>?_;go_in
 go_upto_region 1 with rfl;rw[<-hW];clear hW;go_wp2_with rfl;refine GG.mono ?_;rintro e w1 ⟨⟨pa,pn,pc,sa,sn,sc,rfl,ho,_⟩,hx⟩;refine Op (show ok=true->ZM (w1.alloc (SH #[ato ok,FB pa pn pc,FB sa sn sc,U ((ro:Nat):Int)] 89)) base (FB pa pn pc) P/\pn<=100000 from λ_=>⟨(ho.ext ZL).mono (bR Kt.o HT.x.size),by have h1:Lp P=pn:=ho.rats.hlen;have h2:=Ka.o;omega⟩) (ah w1 (SH #[ato ok,FB pa pn pc,FB sa sn sc,U ((ro:Nat):Int)] 89) _ rfl) ((HT.ext hx).ext (D4.alloc w1 (SH #[ato ok,FB pa pn pc,FB sa sn sc,U ((ro:Nat):Int)] 89))) ((HO.ext hx).ext (D4.alloc w1 (SH #[ato ok,FB pa pn pc,FB sa sn sc,U ((ro:Nat):Int)] 89))) λKT HB HT1 HO1=>?_;have⟨w2,hw2⟩:=j7 (w1.alloc (SH #[ato ok,FB pa pn pc,FB sa sn sc,U ((ro:Nat):Int)] 89));rw[<-hw2]at KT HB HT1 HO1;go_upto_region 13 with rfl;rw[<-hw2];clear hw2;have⟨d0,d1,d2,d3,df⟩:=IT HB.o;have⟨c0,c1,c2,cf⟩:=HT1.s.c;have⟨r0,r1,r2,rf⟩:=HT1.r.c;have⟨R,hR⟩:=j7 (dR ⟨p,V,X⟩ P ok)
 have Gc:=I (kl (p:=p) HO1.o (pa:=pa) (pn:=pn) (pc:=pc) (P:=P) (ok:=ok) KT.o (dP HTB.o HT1.x));rw[<-hR]at Gc;have Lu:=I (Ip.trans hR.symm);clear hR;go_wp2_with rfl;refine Gc.mono ?_;rintro e w9 ⟨⟨a',n',k',b',m',d',rfl,ho⟩,hx⟩;have Hq:=I (HT1.ext hx);have Il:=I ho;have qq0:=@gn;exact Rs
end
def wX(s:St):∃c:Nat,c<4/\iP s=(c:Int):=by
 unfold iP fi
 repeat' split
 all_goals first|exact⟨0,by decide,rfl⟩|exact⟨1,by decide,rfl⟩|exact⟨2,by decide,rfl⟩|exact⟨3,by decide,rfl⟩
def te{s:St}(h:iP s=1):Lp (jQ s)<=5:=by
 unfold iP fi at h;split at h
 ·cases h
 next hg =>
 split at h
 ·cases h
 next hs =>
 obtain⟨q,G,_,H,_⟩:=ap (show ak s.p s.V=true by simpa using hg);have K:=(fD (Decidable.not_not.1 hs)).2.2.2.1;unfold jQ V4 Rr;rw[km,b7,K];unfold ed;rw[yl,G,eI];exact H
def xr(p:Nat)(V:o7):Lp (eh p V)<=2000:=by
 unfold eh;split
 ·next h =>
  obtain⟨q,hq,I6,G,hlen,_,hb⟩:=ap h;have h1:=kt (V:=V) (λj=>by have:=du hb j;omega) (Lp V);have h2:=bp q G;have h3:=mD (n:=p) O;unfold fz;simp only[ar,mg,D1];omega
 simp
def iI(l:List UInt8)(b:Bool):Lp (eC l b)<=Lp l+1:=by
 unfold eC;split
 ·omega
 simp
def Tz{w:J}{r c:Nat}(h:c≠r)(x y z:atY)(o:Nat):(Gx w r x y z).cell? (IM c o)=w.cell? (IM c o):=lI (by
 rw[If _ _ _ _ h,If _ _ _ _ h,If _ _ _ _ h]) o
def wB{p:Int}{V:o7}{X:o3}{q:o8}{C:o7}(h:fG p V X=some (q,C)):(∀c∈C,∃s:Nat,s<32/\c=s)/\Lp C<=32:=by
 unfold fG at h;cases hA:Gt p V X with
 | none=>rw[hA]at h;cases h
 | some l =>
   rw[hA]at h;simp only at h;split at h
   ·cases h
   have⟨G,hl⟩:=dS hA;obtain⟨k,_,h1,H,hlen,_,_⟩:=ap (dY G);have hk:=(bp k H).2;cases h;exact⟨λc hc=>by have:=Cu hc;exact⟨c.toNat,by omega,by omega⟩,by have:=nI l (el l (Lp l)) (Lp l);omega⟩
def wD{w:J}{a b:o6}{n m cap dap:Nat}{X Y:o3}(G:i8 w a n cap X)(hY:i8 w b m dap Y):
 f9 66 #[FB a n cap,FB b m dap] w (ato (decide (X=Y))):=by
 have K:=I (Bw G hY);unfold f9;go_in
 go_wp2_with rfl;refine i6 K λw2 hx=>?_;have H:=I hx.ext;go_wp2;go_ret;exact⟨rfl,H⟩
section
variable{w:J}{p:Int}{a b:o6}{n cap m dap:Nat}{V:o7}{X:o3}{base:Nat}
theorem cS (hO : aG w base a n cap b m dap V X) (hb : base <= w.heap.size) (htab : tIw w) (t : List UInt8) (h : WP t = 4) :
 Calls prog 26 #[sess p a n cap b m dap,atr (bs t)] w λe w'=>D7 w' base e (GZ ⟨p,V,X⟩ 4)/\D4 w w':=by
 have⟨e0,e1,e2,e3,e4,e5,e6,e7,e8⟩:=w9 t;simp only[h,Nat.reduceBEq]at e0 e1 e2 e3 e4 e5 e6 e7 e8;have⟨tt,F2⟩:=j7 (bs t);rw[<-F2]at e0 e1 e2 e3 e4 e5 e6 e7 e8⊢;have⟨W,hW,HT,HO,⟨c0,c1,c2,cf⟩,r0,r1,r2,rf⟩:=fY p hO;have Kt:=I hb;have⟨c,hc4,OF⟩:=wX ⟨p,V,X⟩;have NG:=HO.v.ints.hlen;have⟨P,hP⟩:=j7 (jQ ⟨p,V,X⟩);have GG:=I (show Calls prog 62 #[Id p a n cap] W λe w'=>(∃pa pn pc wa wn wc,e=atn (.agg #[U c,FB pa pn pc,FB wa wn wc])/\(c=1->ZM w' W (FB pa pn pc) P))/\D4 W w' by
  refine(BO (p:=p) HO.v.ints).mono ?_;rintro e w' ⟨⟨pa,pn,pc,wa,wn,wc,rfl,ho⟩,hx⟩;rw[<-NG]at ho⊢;refine⟨⟨pa,pn,pc,wa,wn,wc,by rw[<-OF];rfl,λh1=>by rw[hP];exact ho (OF.trans (by rw[h1];rfl))⟩,hx⟩)
 have Uz:=I (λ(w':J)=>BM (w:=w') c hc4);have Ip:=I (show GZ ⟨p,V,X⟩ 4=(if c=1 then⟨p,V,P⟩ else⟨p,V,X⟩,iu (c:Int))by
  show(if iP ⟨p,V,X⟩=1 then(⟨p,V,jQ ⟨p,V,X⟩⟩:St) else⟨p,V,X⟩,iu (iP ⟨p,V,X⟩))=_;rw[OF,<-hP];by_cases h1:c=1
  ·rw[i7 h1,i7 O]
  rw[f8 h1,f8 O])
 have⟨tx,HTX⟩:=Ok (bs (iu (c:Int)));simp only[<-HTX.o]at Uz;clear OF hP NG;clear F2;go_in
 go_upto_region 1 with rfl;rw[<-hW];clear hW;go_wp2_with rfl;refine GG.mono ?_;rintro e w1 ⟨⟨pa,pn,pc,wa,wn,wc,rfl,ho⟩,hx⟩;refine kv (show c=1->ZM (w1.alloc (SH #[U c,FB pa pn pc,FB wa wn wc] 92)) base (FB pa pn pc) P from λh1=>((ho h1).mono (bR Kt.o HT.x.size)).ext ZL) (ah w1 (SH #[U c,FB pa pn pc,FB wa wn wc] 92) _ rfl) ((HT.ext hx).ext (D4.alloc w1 (SH #[U c,FB pa pn pc,FB wa wn wc] 92))) ((HO.ext hx).ext (D4.alloc w1 (SH #[U c,FB pa pn pc,FB wa wn wc] 92))) (show w.heap.size+1<w1.heap.size from C' (IO HT.r) hx.size) λKT HB HT1 HO1 HG=>?_;have⟨w2,hw2⟩:=j7 (w1.alloc (SH #[U c,FB pa pn pc,FB wa wn wc] 92));rw[<-hw2]at KT HB HT1 HO1;go_upto_region 16 with rfl;rw[<-hw2];clear hw2;generalize w1.heap.size=g at HB HG⊢;have⟨d0,d1,d2,df⟩:=fS HB.o;have⟨c0,c1,c2,cf⟩:=HT1.s.c
 go_upto_if 84 with rfl
 go_cut [4] (λv wx=>v=ats (some (IM (w+1) 0))/\∃(b4:o6) (m4 d4:Nat) (X4:o3),e9 (b9 w wx p a n cap b4 m4 d4)/\e9 (aG wx base a n cap b4 m4 d4 V X4)/\e9 (wx.cell? (IM g 0)=some (U c))/\e9 (GZ ⟨p,V,X⟩ 4=(⟨p,V,X4⟩,iu (c:Int))))
 case first =>
  by_cases h1:c=1
  ·subst h1;have hp:=KT.o rfl;refine Fn (HT1.point pa pn pc) (aG.set2 (X:=P) ⟨HO1.v,hp⟩ HT1.s (FB pa pn pc)) (show(w2.setCell (IM w 2) (FB pa pn pc)).cell? (IM g 0)=some (U ((1:Nat):Int))from(lI (If _ _ _ _ Y1) 0).trans d0) λGJ FM Lb=>?_;go_wp2;go_meet;exact⟨rfl,_,_,_,_,GJ,FM,Lb,I (Ip.trans j9)⟩
  have hne:((c:Int) == 1)=false:=t8;go_wp2;go_meet;exact⟨rfl,_,_,_,_,HT1,HO1,I d0,I (Ip.trans (by rw[f8 h1]))⟩
 obtain⟨rfl,b4,m4,d4,X4,Pr,Gh,V7,Lu⟩:=hcut;have HK:=I (λ(w':J) (hk:D4 wc w')=>(⟨hk.o9 V7.o,(Pr.ext hk).keep⟩:w'.cell? (IM g 0)=some (U c)/\w'.cell? (IM w 0)=some (U p)/\w'.cell? (IM w 1)=some (FB a n cap)/\w'.cell? (IM w 2)=some (FB b4 m4 d4)/\D4 w w'));have hk:=D4.drew wc;go_upto_region 18 with rfl;refine kp HK hk λr9=>?_
 refine ks ⟨?_⟩;refine rd 3 λK hK=>?_;go_simp
 (go_at_call 63;refine i6 (Uz _) λw5 F'=>?_;have hk:=hk.trans F')
 go_wp2_with rfl;refine KO (HK _ hk) λr9=>?_;have Nz:=I (Pr.ext hk);have Tt:=I (Gh.ext hk);have⟨r0,r1,r2,rf⟩:=Nz.r.c;have⟨z0,z1,z2,HZ,XZ⟩:=Nz.FP Tt.o p;refine rd 4 λK hK=>?_;go_simp;refine hK.out _ _ ?_ (λr9=>?_)
 ·exact⟨(Tz (l8 HG.o) _ _ _ 0).trans (hk.o9 V7),iW Nz.o XZ.o⟩
 try simp only[Act.put,sA,sB,sC]
 refine tk 5 ?_;refine ST k8 ?_ _;go_wp2;refine GE YZ rfl ⟨D7.of Lu.o HTX.o HZ.o,XZ⟩
theorem aS (hO : aG w base a n cap b m dap V X) (hb : base <= w.heap.size) (htab : tIw w) (t : List UInt8) (h : WP t = 5) :
 Calls prog 26 #[sess p a n cap b m dap,atr (bs t)] w λe w'=>D7 w' base e (GZ ⟨p,V,X⟩ 5)/\D4 w w':=by
 have⟨e0,e1,e2,e3,e4,e5,e6,e7,e8⟩:=w9 t;simp only[h,Nat.reduceBEq]at e0 e1 e2 e3 e4 e5 e6 e7 e8;generalize bs t=tt at e0 e1 e2 e3 e4 e5 e6 e7 e8⊢;have⟨W,hW,HT,HO,⟨c0,c1,c2,cf⟩,r0,r1,r2,rf⟩:=fY p hO;have GG:=mG (w:=W) (x:=p) HO.v.ints;have⟨ok,Ho⟩:=Ok (ak p V);have⟨P,HPE⟩:=Ok (fW p V);rw[<-Ho.o,<-HPE.o]at GG;have GG:=I GG;go_in
 go_upto_region 1 with rfl;rw[<-hW];clear hW;go_wp2_with rfl;refine PP GG λw1 v ho hx=>?_;obtain⟨pa,pn,pc,rfl,HN⟩:=ho.var;have KT:=I ho;have⟨HT1,HO1,⟨c0,c1,c2,cf⟩,r0,r1,r2,rf⟩:=WU HT HO hx;refine Op (λ(w':J) (hx:D4 w1 w')=>YV (p:=p) (HO1.v.ints.ext hx) (HO1.x.rats.ext hx)) (λ(w':J) (hx:D4 w1 w')=>wD (KT.rats.ext hx) (HO1.x.rats.ext hx)) (λ(w':J) (hx:D4 w1 w')=>wE (p:=p) (HO1.v.ints.ext hx) (HO1.x.rats.ext hx)) (show GZ ⟨p,V,X⟩ 5=(⟨p,V,X⟩,eC [99,111,114,101] (fK p V X)++([32]++(eC [102,97,105,114] (ok&&decide (P=X))++([32]++eC [110,117,99,108,101,111,108,117,115] (jA p V X)))))by rw[Ho.o,HPE.o];rfl) λHIC Ve HNU Ip=>?_;have⟨B1,hB1⟩:=j7 (fK p V X);have⟨B2,RF⟩:=j7 (decide (P=X));have⟨B3,MJ⟩:=j7 (jA p V X);simp only[<-hB1]at HIC;simp only[<-RF]at Ve;simp only[<-MJ]at HNU;rw[<-hB1,<-RF,<-MJ]at Ip;clear hB1 RF MJ;refine Fn (λ(w':J)=>xS (w:=w') [99,111,114,101] B1) (λ(w':J)=>xS (w:=w') [102,97,105,114] (ok&&B2)) (λ(w':J)=>xS (w:=w') [110,117,99,108,101,111,108,117,115] B3) λHW1 HW2 HW3=>?_
 have⟨u1,LP⟩:=j7 (bs (eC [99,111,114,101] B1));have⟨u2,Tc⟩:=j7 (bs (eC [102,97,105,114] (ok&&B2)));have⟨u3,Y8⟩:=j7 (bs (eC [110,117,99,108,101,111,108,117,115] B3));have J2:u1.size<=100:=by rw[LP,aX];have:=iI [99,111,114,101] B1;simp at this;omega
 have Pa:u2.size<=100:=by rw[Tc,aX];have:=iI [102,97,105,114] (ok&&B2);simp at this;omega
 have LR:u3.size<=100:=by rw[Y8,aX];have:=iI [110,117,99,108,101,111,108,117,115] B3;simp at this;omega
 have HTX:=I (show u1++{ data:=#[32] }++u2++{ data:=#[32] }++u3=bs (eC [99,111,114,101] B1++([32]++(eC [102,97,105,114] (ok&&B2)++([32]++eC [110,117,99,108,101,111,108,117,115] B3))))by
  rw[LP,Tc,Y8];show bs _++bs [32]++bs _++bs [32]++bs _=_;rw[cI,cI,cI,cI];simp only[vl])
 simp only[<-LP]at HW1;simp only[<-Tc]at HW2;simp only[<-Y8]at HW3;have Mh:¬9223372036854775807<u1.size+1:=O;have KZ:¬9223372036854775807<u1.size+1+u2.size:=O;have hz3:¬9223372036854775807<u1.size+1+u2.size+1:=O;have hz4:¬9223372036854775807<u1.size+1+u2.size+1+u3.size:=O;clear LP Tc Y8;have hk:=D4.drew w1;go_upto_region 21 with rfl;refine k6 (S:=(λw'=>w'.cell? (IM w 0)=some (U p)/\w'.cell? (IM w 1)=some (FB a n cap)/\w'.cell? (IM w 2)=some (FB b m dap)/\D4 w w')) k8 ?_ (λr9=>?_)
 ·exact(HT1.ext hk).keep
 refine ks ⟨?_⟩;refine tk 3 ?_;refine tk 4 ?_;refine tk 8 ?_;refine UN ⟨?_⟩;refine tk 21 ?_;refine rd 5 λK hK=>?_;go_simp
 (go_at_call 65;refine i6 (HIC _ hk) λw2 hx=>?_;have hk:=hk.trans hx)
 go_wp2_with rfl;refine KO ((HT1.ext hk).keep) λr9=>?_;refine rd 6 λK hK=>?_;go_simp
 (go_at_call 64;refine i6 (HW1 _) λw3 hx=>?_;have hk:=hk.trans hx)
 go_wp2_with rfl;refine KO ((HT1.ext hk).keep) λr9=>?_;refine tk 7 ?_;refine tk 9 ?_;cases ok
 case' false =>
  rw[TR]at HW2;refine tk 10 ?_;refine O5 ⟨?_⟩
 case' true =>
  rw[wq]at HW2;refine tk 10 ?_;refine tk 11 ?_;refine tk 12 ?_;refine rd 13 λK hK=>?_;go_simp
  (go_at_call 66;refine i6 (Ve _ hk) λw4 hx=>?_;have hk:=hk.trans hx)
  go_wp2_with rfl;refine KO ((HT1.ext hk).keep) λr9=>?_
 all_goals
  refine tk 14 ?_;refine rd 15 λK hK=>?_;go_simp
  (go_at_call 64;refine i6 (HW2 _) λw5 hx=>?_;have hk:=hk.trans hx)
  go_wp2_with rfl;refine KO ((HT1.ext hk).keep) λr9=>?_;refine tk 16 ?_;refine tk 17 ?_;refine rd 22 λK hK=>?_;go_simp
  (go_at_call 67;refine i6 (HNU _ hk) λw6 hx=>?_;have hk:=hk.trans hx)
  go_wp2_with rfl;refine KO ((HT1.ext hk).keep) λr9=>?_;refine rd 23 λK hK=>?_;go_simp
  (go_at_call 64;refine i6 (HW3 _) λw7 hx=>?_;have hk:=hk.trans hx)
  go_wp2_with rfl;refine KO ((HT1.ext hk).keep) λr9=>?_;refine tk 24 ?_;have Nz:=I (HT1.ext hk);have Tt:=I (HO1.ext hk);have⟨r0,r1,r2,rf⟩:=Nz.r.c;have⟨z0,z1,z2,HZ,XZ⟩:=Nz.FP Tt.o p;refine rd 25 λK hK=>?_;go_simp;refine KO (iW Nz.o XZ) λr9=>?_;refine tk 26 ?_;refine ST k8 ?_ _;go_wp2;refine GE YZ rfl ⟨D7.of Ip.o HTX.o HZ.o,XZ⟩
def q'(h:σ:=by
 refine k6 (S:=(λw'=>w'.cell? (IM w.heap.size 0)=some (U p)/\w'.cell? (IM w.heap.size 1)=some (FB a n cap)/\w'.cell? (IM w.heap.size 2)=some (FB b m dap)/\D4 w w')) k8 ?_ (λr9=>?_)
 ·exact(GJ.ext hk).keep
 refine tk 0 ?_;refine tk 1 ?_;refine rd 2 λK hK=>?_;go_simp
 (go_at_call 71;refine(Vc _ hk).mono ?_;rintro e w5 ⟨rfl,hx⟩;have hk:=hk.trans hx;clear hx)
 go_wp2_with rfl;refine KO ((GJ.ext hk).keep) λr9=>?_;have Nz:=I (GJ.ext hk);have Tt:=I (FM.ext hk);have⟨r0,r1,r2,rf⟩:=Nz.r.c;have⟨z0,z1,z2,HZ,XZ⟩:=Nz.FP Tt.o p;refine rd 3 λK hK=>?_;go_simp;refine KO (iW Nz.o XZ) λr9=>?_;refine tk 4 ?_;refine ST k8 ?_ _;go_wp2;refine GE YZ rfl ⟨D7.of OT.o HTJ.o HZ.o,XZ⟩
 ):σ:=h
theorem b6 (hO : aG w base a n cap b m dap V X) (hb : base <= w.heap.size) (htab : tIw w) (t : List UInt8) (h : WP t = 6) :
 Calls prog 26 #[sess p a n cap b m dap,atr (bs t)] w λe w'=>D7 w' base e (GZ ⟨p,V,X⟩ 6)/\D4 w w':=by
 have⟨e0,e1,e2,e3,e4,e5,e6,e7,e8⟩:=w9 t;simp only[h,Nat.reduceBEq]at e0 e1 e2 e3 e4 e5 e6 e7 e8;generalize bs t=tt at e0 e1 e2 e3 e4 e5 e6 e7 e8⊢;have⟨W,hW,HT,HO,⟨c0,c1,c2,cf⟩,r0,r1,r2,rf⟩:=fY p hO;have HTB:=I htab;have GG:=wH (w:=W) (p:=p) HO.v.ints HO.x.rats;unfold NY at GG;have HCD:∀q C,fG p V X=some (q,C)->_:=λq C h=>wB h
 have Ip:GZ ⟨p,V,X⟩ 6=(⟨p,V,X⟩,match fG p V X with|none=>PA|some r=>Lib.join (FE r.1::r.2.map λc=>bJ c) [32]):=rfl;obtain⟨x,y,C,B,GG,Ip,HCD⟩:∃(x y:Int) (C:o7) (B:Bool),e9 (Calls prog 68 #[Id p a n cap,FB b m dap] W λe w'=>(∃v,e=atn (.tuple #[Ge x y,v,ato B])/\y9 w' W v C)/\D4 W w')/\e9 (GZ ⟨p,V,X⟩ 6=(⟨p,V,X⟩,if B=true then Lib.join (FE (x,y)::C.map λc=>bJ c) [32] else PA))/\e9 (B=true->(∀c∈C,∃s:Nat,s<32/\c=s)/\Lp C<=32):=by
  cases hr:fG p V X with
  | none=>rw[hr]at GG Ip;exact⟨0,0,[],false,I GG,I Ip,I (λh=>by cases h)⟩
  | some r=>rw[hr]at GG Ip;exact⟨r.1.1,r.1.2,r.2,true,I GG,I Ip,I (λ_=>HCD r.1 r.2 hr)⟩
 go_in
 go_upto_region 1 with rfl;rw[<-hW];clear hW;go_wp2_with rfl;refine PP GG λw1 v ho hx=>?_;obtain⟨pa,pn,pc,rfl,HN⟩:=ho.var;refine Op (ho.ints.ext (D4.alloc w1 (SH #[U x,U y] 80))) (ai.new (D4.refl w1) x y) ((HT.ext hx).ext (D4.alloc w1 (SH #[U x,U y] 80))) ((HO.ext hx).ext (D4.alloc w1 (SH #[U x,U y] 80))) λHI HB HT1 aa=>?_;have⟨w2,hw2⟩:=j7 (w1.alloc (SH #[U x,U y] 80));rw[<-hw2]at HI HB HT1 aa;go_upto_region 24 with rfl;rw[<-hw2];clear hw2;generalize w1.heap.size=g at HB⊢;have⟨c0,c1,c2,cf⟩:=HT1.s.c;cases B
 case' false =>
  have⟨r0,r1,r2,rf⟩:=HT1.r.c;have⟨z0,z1,z2,HZ,XZ⟩:=HT1.FP aa.o (p);go_wp2;refine GE YZ rfl ⟨D7.of (Ip.o) rfl HZ.o,XZ⟩
 case' true =>
  have OT:e9 (GZ ⟨p,V,X⟩ 6=(⟨p,V,X⟩,Lib.join (FE (x,y)::C.map λc=>bJ c) [32])):=Ip.trans rfl;have⟨WB,K6⟩:=HCD.o rfl;refine Fn WB (jy (w:=w2) x y (dP HTB.o HT1.x)) (rC (x,y)) λWB Rk GN=>?_;have q0:=HB.c0;have q1:=HB.c1;have hpn:pn<=32:=l8 HN.o;have⟨akK,aj6⟩:=HI.ath;generalize FE (x,y)=tr at Rk GN OT;go_wp2_with rfl;refine i6 Rk λw3 hx=>?_;refine Op (HT1.ext hx) (aa.ext hx) (HI.ext hx) (A9.lit B6 9 w3 w3 [tr] #[atr (bs tr)] rfl w3 rfl (m9 _) j9) λGU C8 HI3 HO1=>?_;go_wp2
  go_loopg [18,144] pn (λgk tt kk wr=>∃(k m4 c4:Nat) (b4:o6),e9 (gk+k=pn)/\tt=FB b4 m4 c4/\kk=U k/\e9 (A9 B6 9 wr w3 (FB b4 m4 c4) (tr::(C.take k).map λc=>bJ c))/\e9 (D4 w3 wr))
  ·exact I1
  obtain⟨k,m4,c4,b4,HK,rfl,rfl,LH,HX⟩:=hrel;have Ry:=aE k;have Hk:=I (show(tr::(C.take k).map λc=>bJ c).length<=100000 by rw[mg,b7,jt];have:=HN.o;omega);by_cases hlt:k<pn
  ·have IG:=SW k pn;obtain⟨lb,lo,rfl,Fo⟩:=(HI3.ext HX).at hlt;have hkC:k<Lp C:=by rw[HN.o];exact hlt
   have hCk:=In hkC;have⟨s,hs,TS⟩:=WB.o C[k] (cP _);have HJ:=I (show(tr::(C.take k).map λc=>bJ c)++[bJ (s:Int)]=tr::(C.take (k+1)).map λc=>bJ c by
    rw[MH,hCk,rN,<-TS];rfl)
   rw[hCk,NE,TS]at Fo;have RS:=I (λ(w':J)=>ie (w:=w') s hs);generalize bJ (s:Int)=tc at HJ RS;clear TS;go_wp2_with rfl;refine i6 (RS _) λw4 hx=>?_;refine Fn (HX.trans hx) (LH.ext hx) (ID.lit B6 9 w4 [tc] 1 rfl #[atr (bs tc)] rfl w4 rfl O) λX4 Hc Hi=>?_;go_wp2_with (at_builtin;refine dt B6 Tryz.Gb rfl Jw FS rfl _ _ rfl w3 (FB b4 m4 c4) _ rfl (Hc.ext ZL) _ 1 1 [tc] rfl Hi.o (l8 Hk.o) (by have:=X4.size;simp;omega) ?_;intro v6 w6 ho hg r';obtain⟨a6,n6,c6,rfl,Jy⟩:=ho.var;have Gp:=I ho;have Hg:=I (aj (X4.trans ZL) hg (λj hj=>(Hc.lt j hj).1)));exact Rh
  have E':k=pn:=l8 HK.o;have HE:e9 (C.take k=C):=aP (by rw[HN.o];omega);rw[HE.o]at LH;have IG:¬(k:Int)<(pn:Int):=O;have GJ:=I (GU.ext HX);have FM:=I (C8.ext HX);have hm4:m4<=2000000:=by have h1:=LH.JG.hlen;have h2:=Hk.o;rw[HE.o]at h2;omega
  have Vc:=I (λ(w':J) (hx:D4 wr w')=>xI (LH.ext hx) [32] hm4 (by
   have:=lj (L:=tr::C.map λc=>bJ c) (m:=50) (λz hz=>by
    rcases OI.1 hz with rfl|hz
    ·exact GN
    obtain⟨c,_,rfl⟩:=xl.1 hz;have:=jJ c;omega)
   have h2:=Hk.o;rw[HE.o]at h2;omega))
  have⟨tj,HTJ⟩:=Ok (bs (Lib.join (tr::C.map λc=>bJ c) [32]));simp only[<-HTJ.o]at Vc;have hk:=D4.drew wr;go_upto_region 32 with rfl;exact q'
theorem aT (hO : aG w base a n cap b m dap V X) (hb : base <= w.heap.size) (htab : tIw w) (t : List UInt8) (h : WP t = 9) :
 Calls prog 26 #[sess p a n cap b m dap,atr (bs t)] w λe w'=>D7 w' base e (GZ ⟨p,V,X⟩ 9)/\D4 w w':=by
 have⟨e0,e1,e2,e3,e4,e5,e6,e7,e8⟩:=w9 t;simp only[h,Nat.reduceBEq]at e0 e1 e2 e3 e4 e5 e6 e7 e8;generalize bs t=tt at e0 e1 e2 e3 e4 e5 e6 e7 e8⊢;have⟨W,hW,HT,HO,⟨c0,c1,c2,cf⟩,r0,r1,r2,rf⟩:=fY p hO;go_in
 go_upto_region 1 with rfl;rw[<-hW];clear hW;have qq0:=@gn;exact Sc
end
section
def Jq(h:σ:=by unfold Func.isWrapper;first|(rw[i7 (by decide +kernel)];kernel_rfl)|(rw[f8 (by decide +kernel)];exact⟨rfl,rfl⟩)):σ:=h
def Wy(h:σ:=by simp[results,Vt,go_sem,r0,r1,r2,rf,z0,z1,z2]<;>rfl):σ:=h
def NA(h:σ:=by rw[MakeChecks.laidMetH_plain _ _ _ k8];exact laidMet_laidAll _ k8 k8):σ:=h
def GU(h:σ:=by decide +kernel):σ:=h
def H4(h:σ:=by rw[hx];decide):σ:=h
def p'(h:σ:=by
 rw [MakeChecks.laidMetH_plain _ _ _ (by kernel_rfl)] at h;have h2 : laidMet prog (("internal/strconv.uint64pow10", Lib.tabData .u64 Lib.pow10Tab) :: [("unicode/utf8.acceptRanges", Rows.laid_unicode_utf8_acceptRanges), ("unicode/utf8.first", Rows.laid_unicode_utf8_first)]) W := (show laidMet prog (_ :: _ :: ("internal/strconv.uint64pow10", Rows.laid_internal_strconv_uint64pow10) :: [("unicode/utf8.acceptRanges", Rows.laid_unicode_utf8_acceptRanges), ("unicode/utf8.first", Rows.laid_unicode_utf8_first)]) W from h).tail.tail;exact Lib.tabIs_of_head (g := 3) (by kernel_rfl) (by kernel_rfl) Tryz.underlying301 Tryz.underlying233 (by kernel_rfl) (by kernel_rfl) h2
 ):σ:=h
variable{r:I'}{n:Nat}{R:(Nat->Int)->Prop}{V:o7}
def pE(R:(Nat->Int)->Prop)(y:Nat->Rat)(n:Nat):Prop:=∀r,R r->∃m:Int,B5 (λi=>((r i:Int):Rat)*y i) n=(m:Rat)
def Uh(R:(Nat->Int)->Prop)(b:Nat->Int)(n:Nat):Prop:=∀z:Nat->Rat,(∀r,R r->B5 (λi=>((r i:Int):Rat)*z i) n=0)->B5 (λi=>((b i:Int):Rat)*z i) n=0
def pq(b:Nat->Int)(y:Nat->Rat)(n K:Nat):Prop:=∃M:Nat,1<=M/\M<=K/\∃m:Int,(M:Rat)*B5 (λi=>((b i:Int):Rat)*y i) n=(m:Rat)
def xe(R:(Nat->Int)->Prop)(r:Nat->Int)(n:Nat)(s:Nat->Int):Prop:=∃q,R q/\∀i,s i=r n*q i-q n*r i
theorem lK{p c:Int}{q r s:Nat->Int}(hs:∀i,s i=p*q i-c*r i)(x:Nat->Rat):B5 (λi=>((s i:Int):Rat)*x i) n=(p:Rat)*B5 (λi=>((q i:Int):Rat)*x i) n+(-(c:Rat))*B5 (λi=>((r i:Int):Rat)*x i) n:=by
 rw[<-gS,<-lv];refine bX λi hi=>?_;rw[hs i,Rat.intCast_sub,N2,N2]
 grind
theorem xj{K:Nat}{b r:Nat->Int}{y:Nat->Rat}(hr:R r)(Kk:r n≠0)(hy:pE R y (n+1))(hk:Uh R b (n+1))
 (ih:pE (xe R r n) y n->Uh (xe R r n) (λi=>r n*b i-b n*r i) n->pq (λi=>r n*b i-b n*r i) y n K):pq b y (n+1) ((r n).natAbs*K):=by
 have⟨p,hp⟩:=j7 (r n);have⟨mr,G⟩:=hy r hr;simp only[B5]at G;rw[<-hp]at G Kk;have Fw:(p:Rat)≠0:=fL Kk;unfold xe at ih;rw[<-hp]at ih⊢;have⟨M,VG,hM2,m,hm⟩:=ih (by
  rintro s ⟨q,hq,hs⟩;have⟨mq,Z⟩:=hy q hq;simp only[B5]at Z;refine⟨p*mq-q n*mr,?_⟩;rw[lK hs y,Rat.intCast_sub,N2,N2,<-Z,<-G]
  grind)
  (by
    intro z hz;have KZ:=hk (λi=>if i=n then-B5 (λi=>((r i:Int):Rat)*z i) n/(p:Rat) else z i) (λq hq=>by
     have h1:=hz (λi=>p*q i-q n*r i) ⟨q,hq,λ_=>rfl⟩;rw[lK (λ_=>rfl) z]at h1;simp only[B5,G6];have e:B5 (λk=>((q k:Int):Rat)*(if k=n then-B5 (λi=>((r i:Int):Rat)*z i) n/(p:Rat) else z k)) n=B5 (λi=>((q i:Int):Rat)*z i) n:=bX λi hi=>by rw[f8 O]
     rw[e];generalize B5 (λi=>((q i:Int):Rat)*z i) n=sq at h1⊢;generalize B5 (λi=>((r i:Int):Rat)*z i) n=sr at h1⊢
     grind)
    rw[lK (λ_=>rfl) z];simp only[B5,G6]at KZ;have e:B5 (λk=>((b k:Int):Rat)*(if k=n then-B5 (λi=>((r i:Int):Rat)*z i) n/(p:Rat) else z k)) n=B5 (λi=>((b i:Int):Rat)*z i) n:=bX λi hi=>by rw[f8 O]
    rw[e]at KZ;generalize B5 (λi=>((b i:Int):Rat)*z i) n=sb at KZ⊢;generalize B5 (λi=>((r i:Int):Rat)*z i) n=sr at KZ⊢
    grind)
 rw[lK (λ_=>rfl) y]at hm;refine⟨p.natAbs*M,?_,yy (m9 _) hM2,?_⟩
 ·have:1<=p.natAbs:=by omega
  exact yy this VG
 have habs:((p.natAbs:Int):Rat)=(p:Rat)∨((p.natAbs:Int):Rat)=-(p:Rat):=by
  rcases Int.natAbs_eq p with h|h
  ·left;rw[<-h]
  right;rw[<-Rat.intCast_neg];congr 1;omega
 have akI:((p.natAbs*M:Nat):Rat)=((p.natAbs:Int):Rat)*(M:Rat):=by push_cast;rfl
 have hMc:(((M:Nat):Int):Rat)=(M:Rat):=by push_cast;rfl
 have H:(p:Rat)*(M:Rat)*(B5 (λi=>((b i:Int):Rat)*y i) n+(b n:Rat)*y n)=((m+(M:Int)*(b n*mr):Int):Rat):=by
  rw[Rat.intCast_add,N2,N2,hMc,<-hm,<-G];generalize B5 (λi=>((b i:Int):Rat)*y i) n=sb;generalize B5 (λi=>((r i:Int):Rat)*y i) n=sr
  grind
 rw[akI];simp only[B5];rcases habs with h|h
 ·exact⟨m+(M:Int)*(b n*mr),by rw[h];exact H⟩
 refine⟨-(m+(M:Int)*(b n*mr)),?_⟩;rw[h,Rat.intCast_neg,<-H]
 grind
theorem uS:∀{n B C:Nat},B<=C->QS n B<=QS n C
 | 0,_,_,_=>m9 _
 | n+1,B,C,h=>yy h (uS (yy (yy (m9 2) h) h))
theorem Pf{B:Nat}(h:1<=B):QS n B<=QS (n+1) B:=by
 have K:B<=2*B*B:=by
  have:=yy (m9 B) (show 1<=2*B by omega);rw[Nat.mul_one]at this;rw[ga (2*B) B];exact this
 have H:QS n B<=QS n (2*B*B):=uS K;have G:=yy h H;rw[Nat.one_mul]at G;exact G
theorem xh{K:Nat}{b:Nat->Int}{y:Nat->Rat}(H:∀r,R r->r n=0)(hy:pE R y (n+1))(G:Uh R b (n+1))(Z:pE R y n->Uh R b n->pq b y n K):pq b y (n+1) K:=by
 have Q:((0:Int):Rat)=0:=rfl;have hb:((b n:Int):Rat)=0:=by
  have:=G (λi=>if i=n then 1 else 0) (λr hr=>fR λi hi=>by
   by_cases e:i=n
   ·subst e;rw[H r hr,Q];grind
   rw[f8 e];grind)
  simp only[B5,G6]at this;rw[fR (λi hi=>by rw[f8 O];grind)]at this
  grind
 have⟨M,h1,h2,m,hm⟩:=Z (λr hr=>by
  have⟨m,hm⟩:=hy r hr;simp only[B5]at hm;rw[H r hr,Q]at hm;exact⟨m,by rw[<-hm];grind⟩)
  (λz hz=>by
    have:=G (λi=>if i=n then 0 else z i) (λr hr=>by
     simp only[B5,G6];rw[bX (g:=λi=>((r i:Int):Rat)*z i) (λi hi=>by rw[f8 O]),hz r hr]
     grind)
    simp only[B5,G6]at this;rw[bX (g:=λi=>((b i:Int):Rat)*z i) (λi hi=>by rw[f8 O])]at this
    grind)
 refine⟨M,h1,h2,m,?_⟩;simp only[B5];rw[hb,<-hm]
 grind
theorem mV:∀(n B:Nat) (R:(Nat->Int)->Prop) (b:Nat->Int) (y:Nat->Rat),1<=B->(∀r,R r->∀i,i<n->-(B:Int)<=r i/\r i<=B)->pE R y n->Uh R b n->pq b y n (QS n B)
 | 0,B,R,b,y,_,_,_,_=>⟨1,m9 _,m9 _,0,by simp only[B5];have e0:((0:Int):Rat)=0:=rfl;rw[e0];grind⟩
 | n+1,B,R,b,y,h1,hB,hy,hk=>by
   by_cases G:∀r,R r->r n=0
   ·have⟨M,Q,K,H⟩:=xh G hy hk (mV n B R b y h1 (λr hr i hi=>hB r hr i O));exact⟨M,Q,bR K (Pf h1),H⟩
   obtain⟨r,hr,Kk⟩:∃r,R r/\r n≠0:=by
    refine XP λhh=>G λr hr=>XP λh=>hh ⟨r,hr,h⟩
   have Z:=hB r hr n O;have⟨M,Q,K,H⟩:=xj hr Kk hy hk (mV n (2*B*B) _ _ y (yy (yy (show 1<=2 by omega) h1) h1) (by
    rintro s ⟨q,hq,hs⟩ i hi;rw[hs i];have:=NZ (B:=(B:Int)) O Z (hB q hq i O) (hB q hq n O) (hB r hr i O);have e:((2*B*B:Nat):Int)=2*(B:Int)*B:=by push_cast;rfl
    rw[e];exact this))
   exact⟨M,Q,bR K (yy O (m9 _)),H⟩
theorem J0{p a c r:Int}(G:p=1)(h2:0<=a/\a<=1)(h3:0<=c/\c<=1)(h4:0<=r/\r<=1):-1<=p*a-c*r/\p*a-c*r<=1:=by
 subst G;rcases(by omega:c=0∨c=1)with rfl|rfl<;>omega
theorem Br(n:Nat)(R:(Nat->Int)->Prop)(b:Nat->Int)(y:Nat->Rat)(H:∀r,R r->∀i,i<n+1->0<=r i/\r i<=1)(Q:pE R y (n+1))(hk:Uh R b (n+1)):pq b y (n+1) (QS n 1):=by
 by_cases G:∀r,R r->r n=0
 ·exact xh G Q hk (mV n 1 R b y (m9 _) (λr hr i hi=>by have:=H r hr i O;omega))
 obtain⟨r,hr,Kk⟩:∃r,R r/\r n≠0:=by
  refine XP λhh=>G λr hr=>XP λh=>hh ⟨r,hr,h⟩
 have hp:=H r hr n O;have OD:r n=1:=O;have⟨M,m1,K,m3⟩:=xj hr Kk Q hk (mV n 1 _ _ y (m9 _) (by
  rintro s ⟨q,Z,hs⟩ i hi;rw[hs i];exact J0 OD (H q Z i O) (H q Z n O) (H r hr i O)))
 refine⟨M,m1,?_,m3⟩;rw[OD]at K
 simpa using K
theorem wo:∀{m:Nat} {f:Nat->Rat},(∀k,k<m->0<=f k)->B5 f m<=0->∀k,k<m->f k=0
 | 0,_,_,_,k,G=>absurd G O
 | m+1,f,h,hs,k,G=>by
   have h1:=uM (m:=m) (λk G=>h k O);have h2:=h m O;simp only[B5]at hs
   rcases xf k m with H|H
   ·exact wo (λk G=>h k O) (by grind) k H
   obtain rfl:k=m:=O
   grind
theorem Bl{A:o4}{B:o7}{C:o3}(h:TY A B C r){j:Nat}(G:j<Lp C)(hx:B8 r.X j≠0):B5 (λi=>B8 r.Y i*(OK A i j:Rat)) (Lp A)=B8 C j:=by
 have e1:B5 (λi=>B8 r.Y i*((B[i]?.getD 0:Int):Rat)) (Lp A)=B5 (λj=>B5 (λi=>B8 r.Y i*((OK A i j:Rat)*B8 r.X j)) (Lp A)) (Lp C):=by
  rw[mj (λi j=>B8 r.Y i*((OK A i j:Rat)*B8 r.X j))];exact bX λi hi=>by rw[gS,h.row i hi]
 have e2:B5 (λj=>B8 r.X j*(B8 C j-B5 (λi=>B8 r.Y i*(OK A i j:Rat)) (Lp A))) (Lp C)=0:=by
  have Z:B5 (λj=>B8 r.X j*(B8 C j-B5 (λi=>B8 r.Y i*(OK A i j:Rat)) (Lp A))) (Lp C)=B5 (λj=>B8 C j*B8 r.X j+(-1)*B5 (λi=>B8 r.Y i*((OK A i j:Rat)*B8 r.X j)) (Lp A)) (Lp C):=bX λj G=>by
   have:B5 (λi=>B8 r.Y i*((OK A i j:Rat)*B8 r.X j)) (Lp A)=B8 r.X j*B5 (λi=>B8 r.Y i*(OK A i j:Rat)) (Lp A):=by
    rw[<-gS];exact bX λi hi=>by grind
   rw[this];grind
  rw[Z,lv,<-h.cx,<-e1,<-h.yb]
  grind
 have:=wo (λj G=>by
  have K:=h.x0 j G;have h2:=h.Fm j G;exact Rat.mul_nonneg K (by grind)) (show B5 (λj=>B8 r.X j*(B8 C j-B5 (λi=>B8 r.Y i*(OK A i j:Rat)) (Lp A))) (Lp C)<=(0:Rat)by rw[e2];exact Rat.le_refl) j G
 have Q:B8 r.X j*(B8 C j-B5 (λi=>B8 r.Y i*(OK A i j:Rat)) (Lp A))=0:=this;rcases Rat.mul_eq_zero.1 Q with H|H
 ·exact absurd H hx
 grind
theorem Df{A:o4}{B:o7}{C:o3}(h:TY A B C r)(H:∀j,j<Lp C->B8 r.X j≠0->R (λi=>OK A i j)):Uh R (λi=>B[i]?.getD 0) (Lp A):=by
 intro z hz;have K:B5 (λi=>((B[i]?.getD 0:Int):Rat)*z i) (Lp A)=B5 (λj=>B5 (λi=>z i*((OK A i j:Rat)*B8 r.X j)) (Lp A)) (Lp C):=by
  rw[mj (λi j=>z i*((OK A i j:Rat)*B8 r.X j))];exact bX λi hi=>by rw[gS,h.row i hi];grind
 rw[K];refine fR λj G=>?_;have e:B5 (λi=>z i*((OK A i j:Rat)*B8 r.X j)) (Lp A)=B8 r.X j*B5 (λi=>((OK A i j:Int):Rat)*z i) (Lp A):=by
  rw[<-gS];exact bX λi hi=>by grind
 rw[e];by_cases hx:B8 r.X j=0
 ·rw[hx];grind
 rw[hz _ (H j G hx)];grind
theorem Xe:∀n:Fin 6,∀s:Fin 32,s.val+1<cN n.val->∃i:Fin 5,i.val<n.val/\M2 ((1+s.val:Nat):Int) i.val=true:=by decide +kernel
theorem zr{f:Nat->Rat}{k:Nat}:∀{m:Nat},k<m->(∀i,i<m->0<=f i)->f k<=B5 f m
 | 0,h,_=>absurd h O
 | m+1,h,hf=>by
   simp only[B5]
   rcases xf k m with G|G
   ·have:=zr G (λi hi=>hf i O);have:=hf m O
    grind
   obtain rfl:k=m:=O
   have:=uM (m:=k) (λi hi=>hf i O)
   grind
theorem tO(c:Rat):∀m:Nat,B5 (λ_=>c) m=(m:Rat)*c
 | 0=>by simp only[B5];have:((0:Nat):Rat)=0:=rfl;rw[this];grind
 | m+1=>by
   simp only[B5];rw[tO c m];have:((m+1:Nat):Rat)=(m:Rat)+1:=by push_cast;rfl
   rw[this];grind
def RS(h:σ:=by
 rw[gS]at this;have LU:((n'+1:Nat):Rat)<=((5:Nat):Rat):=by exact_mod_cast hn
 have e5:((5:Nat):Rat)=5:=rfl
 grind
 ):σ:=h
theorem NU(Ht:1<=n)(hn:n<=5)(hV:Lp V=cN n)(hb:∀x∈V,-500<=x/\x<=500)(hc:TY (dQ n (cN n)) (ed n) (aY V) r):
 ∃(M:Nat) (m:Int),1<=M/\M<=2048/\(M:Rat)*val r.value=(m:Rat)/\m.natAbs<=2500*M:=by
 have Oi:=bp n hn;have K:Lp (dQ n (cN n))=n:=by unfold dQ Gk;simp
 have hCl:Lp (aY V)=cN n-1:=by unfold aY;rw[b7,C3,hV]
 have H:∀j,j<cN n-1->B8 (aY V) j=((- (V[1+j]?.getD 0):Int):Rat):=λj G=>by
  have hl:1+j<Lp V:=O;have e:(aY V)[j]?.getD (0,0)=(-(V[1+j]?.getD 0),1):=by
   unfold aY;rw[sr,QL,In hl];rfl
  unfold B8;rw[e,fF]
 obtain⟨n',rfl⟩:∃n',n=n'+1:=⟨n-1,by omega⟩;have⟨M,m1,m2,m,hm⟩:=Br n' (λf=>∃j,j<cN (n'+1)-1/\B8 r.X j≠0/\f=λi=>OK (dQ (n'+1) (cN (n'+1))) i j) (λi=>(ed (n'+1))[i]?.getD 0) (λi=>B8 r.Y i)
  (by
    rintro f ⟨j,G,_,rfl⟩ i hi;simp only;rw[qL hi O G];exact y0 _)
  (by
    rintro f ⟨j,G,hx,rfl⟩;have:=Bl hc (j:=j) O hx;rw[K,H j G]at this;exact⟨_,by rw[<-this];exact bX λi hi=>by grind⟩)
  (by
    have:=Df hc (R:=λf=>∃j,j<cN (n'+1)-1/\B8 r.X j≠0/\f=λi=>OK (dQ (n'+1) (cN (n'+1))) i j) (λj G hx=>⟨j,by omega,hx,rfl⟩);rw[K]at this;exact this)
 have O9:=hc.yb;rw[K]at O9;have e:B5 (λi=>(((ed (n'+1))[i]?.getD 0:Int):Rat)*B8 r.Y i) (n'+1)=val r.value:=by rw[O9];exact bX λi hi=>by grind
 rw[e]at hm;have hd:=LH ⟨n',by omega⟩;simp only at hd;refine⟨M,m,m1,by omega,hm,?_⟩;have hx:B5 (λj=>B8 r.X j) (cN (n'+1)-1)<=((n'+1:Nat):Rat):=by
  have e1:B5 (λj=>B5 (λi=>(OK (dQ (n'+1) (cN (n'+1))) i j:Rat)*B8 r.X j) (n'+1)) (cN (n'+1)-1)=((n'+1:Nat):Rat):=by
   rw[mj (λi j=>(OK (dQ (n'+1) (cN (n'+1))) i j:Rat)*B8 r.X j),bX (g:=λ_=>(1:Rat)) (λi hi=>by
    have:=hc.row i O;rw[hCl]at this;rw[this];unfold ed;rw[I0,i7 hi];rfl),tO]
   grind
  rw[<-e1];refine pS λj G=>?_;have⟨i,Z,VA⟩:=Xe ⟨n'+1,by omega⟩ ⟨j,by omega⟩ U9;have B9:=hc.x0 j O;have UO:∀k,k<n'+1->0<=(OK (dQ (n'+1) (cN (n'+1))) k j:Rat)*B8 r.X j:=λk hk=>by
   rw[qL hk O G,wT];split<;>grind
  have:=zr (k:=i.val) Z UO;rw[qL Z O G,wT,i7 VA]at this
  grind
 have OF:=hc.cx;rw[hCl]at OF;have hup:val r.value<=2500:=by
  rw[OF];have:B5 (λj=>B8 (aY V) j*B8 r.X j) (cN (n'+1)-1)<=B5 (λj=>(500:Rat)*B8 r.X j) (cN (n'+1)-1):=pS λj G=>by
   have B9:=hc.x0 j O;rw[H j G];have hv:=kT hb (1+j);have:((-(V[1+j]?.getD 0):Int):Rat)<=((500:Int):Rat):=aC.2 (show -(V[1+j]?.getD 0)<=500 by omega);have e5:((500:Int):Rat)=500:=rfl;rw[e5]at this;have:=F5 this B9
   grind
  exact RS
 have hlo:-2500<=val r.value:=by
  rw[OF];have:B5 (λj=>(-500:Rat)*B8 r.X j) (cN (n'+1)-1)<=B5 (λj=>B8 (aY V) j*B8 r.X j) (cN (n'+1)-1):=pS λj G=>by
   have B9:=hc.x0 j O;rw[H j G];have hv:=kT hb (1+j);have:((-500:Int):Rat)<=((-(V[1+j]?.getD 0):Int):Rat):=aC.2 (show(-500:Int)<=-(V[1+j]?.getD 0)by omega);have e5:((-500:Int):Rat)=-500:=rfl;rw[e5]at this;have:=F5 this B9
   grind
  exact RS
 have hM0:(0:Rat)<=(M:Rat):=by exact_mod_cast ef M
 have hMc:(((M:Nat):Int):Rat)=(M:Rat):=by push_cast;rfl
 have u1:=F5 hup hM0;have u2:=F5 hlo hM0;rw[hm]at u1 u2;have v1:((m:Int):Rat)<=((2500*(M:Int):Int):Rat):=by rw[N2,hMc];have e5:((2500:Int):Rat)=2500:=rfl;rw[e5];grind
 have v2:((-2500*(M:Int):Int):Rat)<=((m:Int):Rat):=by rw[N2,hMc];have e5:((-2500:Int):Rat)=-2500:=rfl;rw[e5];grind
 have v1:m<=2500*(M:Int):=aC.1 v1;have v2:-2500*(M:Int)<=m:=aC.1 v2;omega
theorem Kq{g:Int}(hs:r.status=1):fi true g r=if 0<D' (D2 r.value) (g,1) then 2 else if((eO g r).2&&(ko g r).2)=true then 1 else 3:=by
 unfold fi;rw[f8 j9,f8 (λh=>h hs)]
theorem Ru{g:Int}(hs:r.status=1):fJ true g r=if(eO g r).2=false then 3 else if(eO g r).1.1<0 then 2 else if(ko g r).2=true then 1 else 3:=by
 unfold fJ;rw[f8 j9,f8 (λh=>h hs)]
theorem re{p:Int}:fi (ak p V) (bu p V) (bH az (dQ p.toNat (Lp V)) (ed p.toNat) (aY V))=fJ (ak p V) (bu p V) (bH az (dQ p.toNat (Lp V)) (ed p.toNat) (aY V)):=by
 cases hg:ak p V with
 | false=>rfl
 | true =>
   obtain⟨n,rfl,h1,h5,hl,_,hb⟩:=ap hg;have⟨r,hr⟩:=j7 (bH az (dQ (n:Int).toNat (Lp V)) (ed (n:Int).toNat) (aY V));rw[<-hr];by_cases hs:r.status=1
   ·rw[Kq hs,Ru hs];have H:(bH az (dQ n (cN n)) (ed n) (aY V)).status=1:=by rw[<-hl];rw[hr]at hs;exact hs
    obtain⟨s1,_,s3,_,Z,_⟩:=fD H;have K:=Jn s1 s3 H;have hre:r=bH az (dQ n (cN n)) (ed n) (aY V):=by rw[hr,hl];rfl
    rw[<-hre]at K Z;have⟨M,m,m1,m2,hm,hmb⟩:=NU h1 h5 hl hb K;have NO:=vo Z m1 hm;have JC:-500<=bu (n:Int) V/\bu (n:Int) V<=500:=by rw[eW hg];exact kT hb _
    have z1:=NO.size;have b1:=aV Z;have n1:=pj (A:=500) (B:=2048) (a:=bu (n:Int) V) (b:=(M:Int)) O O;have n2:=pj (A:=500) (B:=2048) (a:=bu (n:Int) V) (b:=r.value.2) O O;have⟨c,c1,c2⟩:=(Fr.int (bu (n:Int) V) O O).add NO (z:=bu (n:Int) V*(M:Int)+m) (F:=(M:Int)) O O O U9 (by grind);have QM:(eO (bu (n:Int) V) r).2=true:=by unfold eO;rw[c1]
    have G:=CR QM;rw[QM];by_cases Q:(eO (bu (n:Int) V) r).1.1<0
    ·rw[i7 (G.2 Q),f8 (show¬true=false by simp),i7 Q]
    rw[f8 (λh=>Q (G.1 h)),f8 (show¬true=false by simp),f8 Q,wq]
   unfold fi fJ;rw[f8 (show¬true=false by simp),f8 (show¬true=false by simp),i7 hs,i7 hs]
def Vv(h:σ:=by
 have Ky:=I (Ml.grow (D4.alloc w1 (SH #[] 3)));have OT:=I (y9.Ft w1 w.heap.size _ rfl Ml.ext.size);have q0:=Ky.c0;have q1:=Ky.c1;have qf:=Ky.free;go_wp2;refine GE (v:=.tuple #[.agg #[U 0,U 0],GT w1.heap.size 0 0,ato false]) (by simp[results,results191,go_sem,q0,q1,qf]) rfl ⟨⟨_,by rw[HZ.o];rfl,by rw[HZ.o];exact OT.ML Ky.o _ _⟩,(Ky.put _ _).ext⟩
 ):σ:=h
theorem wQ{w:J}{p:Int}{a:o6}{cap:Nat}(h:d6 w a n cap V){b:o6}{m Gl:Nat}{X:o3}(hx:i8 w b m Gl X):
 Calls prog 191 #[Id p a n cap,FB b m Gl] w λe w'=>NY w' w e (fG p V X)/\D4 w w':=by
 have⟨W,hW⟩:=j7 ((w.alloc (SH #[.int .i64 p,FB a n cap] 31)).alloc (SH #[.int .i64 0,.int .i64 0] 80));have hX:D4 w W:=by rw[hW];exact ZL.trans ZL
 have K8:=I (show ai w W (w+1) 0 0 by rw[hW];exact ai.new' ZL _ _ j9);have k0:W.cell? ⟨w,0,none⟩=some (.int .i64 p):=by rw[hW];exact D4.o9 ZL j9
 have k1:W.cell? ⟨w,1,none⟩=some (FB a n cap):=by rw[hW];exact D4.o9 ZL j9
 refine Fn (nQ (p:=p) (h.ext hX) (hx.ext hX)) (show fG p V X=(match Gt p V X with|none=>none|some l=>if Lp l=0 then none else some (el l (Lp l),eL l (el l (Lp l)) (Lp l)))from rfl) (λ(l:o3) (hl:Gt p V X=some l)=>show Lp l<=n by have:=(dS hl).2;have:=h.hlen;omega) λHE HW Lw=>?_
 have NB:=I (λ(l:o3) (hl:Gt p V X=some l)=>show n<=32 by
  obtain⟨q,_,h1,h5,hlen,_,_⟩:=ap (dY (dS hl).1);have:=bp q h5;have h2:=h.hlen;omega)
 have y7:=h.y7;have y8:=h.y8;have⟨A,hA⟩:=j7 (Gt p V X);have⟨R,hR⟩:=j7 (fG p V X);rw[<-hA]at HE HW Lw NB;rw[<-hR]at HW⊢;have Fp:=I (show W.heap.size=w.heap.size+2 by rw[hW];simp);clear h hx hA hR hX;go_in
 go_upto_region 1 with rfl;rw[<-hW];clear hW;go_wp2_with rfl;refine PP HE λw1 v ho hx=>?_;obtain⟨a1,n1,c1,rfl,HN⟩:=ho.var;have HO:=I ho.rats;have Ml:=I (K8.grow hx);have hsz:=hx.size;have Nk:=HO.y7;have Ng:=HO.y8;clear ho hx k0 k1;cases A with
 | none =>
   have HZ:e9 (R=none):=HW;exact Vv
 | some l =>
   have IU:=NB.o l rfl;have T5:=Lw.o l rfl;have Ht:Lp l=n1:=HN.o;by_cases h0:n1=0
   ·have HZ:=I (show R=none by rw[HW.o];simp only;rw[i7 O]);subst h0;exact Vv
   have hz:((n1:Int) == 0)=false:=t8;have HZ:=I (show R=some (el l n1,eL l (el l n1) n1)by rw[HW.o];simp only;rw[f8 O,Ht]);have hn33:n1<=32:=O;simp only[NE]at HO;have⟨b0,o0,x0,y0,e0,MB,d0,d1⟩:=HO.at (show 0<n1 by omega);have HV0:e9 (el l 0=(x0,y0)):=MB;subst e0;have⟨w3,Gn⟩:=j7 (w1.alloc (SH #[.int .i64 x0,.int .i64 y0] 80));refine Op (show ai w w3 w1 x0 y0 by rw[Gn];exact ai.new Ml.ext _ _) (show ai w w3 (w+1) 0 0 by rw[Gn];exact Ml.grow ZL) (show w.heap.size+1<w1.heap.size by have:=Fp.o;omega) (show D4 w1 w3 by rw[Gn];exact ZL) λHB Ky HG C5=>?_;rw[Nat.zero_mul,wA]at d0 d1;clear T5 Ht HN MB;go_upto_region 5 with rfl;rw[<-Gn];clear Gn d0 d1;have⟨K,It⟩:=j7 w1.heap.size;have Tv:=I It;rw[<-It]at HB HG⊢;clear It;go_wp2
   go_loopg [10] n1 (λgk ii wr=>∃(k:Nat) (bx bz:Int),e9 (gk+k=n1)/\ii=.int .i64 (k:Int)/\e9 (el l k=(bx,bz))/\e9 (ai w wr K bx bz)/\e9 (ai w wr (w+1) 0 0)/\e9 (D4 w1 wr))
   ·exact⟨0,x0,y0,I O,rfl,HV0,HB,Ky,C5⟩
   rename Nat=>g1;rename J=>A1;obtain⟨k,x,y,HK,rfl,WD,FJ,HR1',A6⟩:=hrel;have q0:=FJ.c0;have q1:=FJ.c1;by_cases hlt:k<n1
   ·have⟨b,off,u,v,e,Ob,Fo,FQ⟩:=(HO.ext A6).at hlt;simp only[Pi,gl,gi]at e;obtain⟨rfl,rfl⟩:=e;have IG:=SW k n1;have MI:=aE k;have⟨c,hc⟩:=j7 (D' (u,v) (x,y));have HCV:=I (show el l (k+1)=if 0<c then(u,v) else(x,y)by rw[el,Ob,WD.o,hc]);have Jz:=I (λw'=>eM u v x y w');simp only[<-hc]at Jz;have Q5:=I Fo;have RU:=I FQ;clear hc Ob;have r7:=D4.drew A1;have Fu:=r7;have r8:=I (λ(w':J) (h:D4 A1 w')=>(an (h.o9 Fo) (an (h.o9 FQ) (an (h.o9 q0) (an (h.o9 q1) h)))));go_wp2_with rfl
    go_region_held3 (λw'=>w'.cell? ⟨b0,o0+k*2,none⟩=some (.int .i64 u)/\w'.cell? ⟨b0,o0+k*2+1,none⟩=some (.int .i64 v)/\w'.cell? ⟨K,0,none⟩=some (.int .i64 x)/\w'.cell? ⟨K,1,none⟩=some (.int .i64 y)/\D4 A1 w')
     (with_reducible exact r8.o _ r7)
     (first
       | ((with_reducible refine(Jz.o _).mono ?_)
          rintro e w5 ⟨rfl,B7⟩;have r7:D4 A1 w5:=r7.trans B7;have UK:=r7.size))
    clear Fu;refine Fn (FJ.grow r7) (HR1'.grow r7) (A6.trans r7) λH Lv Z=>?_;have r0:=r7.o9 Q5.o;have r1:=r7.o9 RU.o;clear q0 q1 Fo FQ;have q0:=H.c0;have q1:=H.c1;have qf:=H.free;by_cases hc:0<c
    ·have Vg:=I (HCV.trans (i7 hc));go_wp2_with rfl;refine gy ?_;exact⟨k+1,u,v,I (l8 HK.o),by go_num,Vg,I (H.put _ _),I ((Lv.other Y1 Y1 _).other Y1 Y1 _),I ((Z.setCell (p:=⟨K,0,none⟩) (by rw[Tv.o];exact m9 _) _).setCell (p:=⟨K,1,none⟩) (by rw[Tv.o];exact m9 _) _)⟩
    have Vg:=I (HCV.trans (f8 hc));go_wp2_with rfl;refine gy ?_;exact⟨k+1,x,y,I (l8 HK.o),by go_num,Vg,H,Lv,Z⟩
   have Tk:k=n1:=l8 HK.o;subst Tk;rw[WD.o]at HZ;have⟨wl,hwl⟩:=j7 A1;subst hwl;have QM:=FJ.ext.size;go_wp2
   go_loopg [11,12] k (λgk ll ii wr=>∃(j:Nat) (a4:o6) (n4 c4:Nat),e9 (gk+j=k)/\ii=.int .i64 (j:Int)/\ll=FB a4 n4 c4/\e9 (y9 wr wl (FB a4 n4 c4) (eL l (x,y) j))/\e9 (ai w wr K x y)/\e9 (ai w wr (w+1) 0 0)/\e9 (D4 wl wr))
   ·exact Pk
   obtain⟨j,a4,n4,c4,HJ,rfl,rfl,HL,Hc,Kd,Io⟩:=hrel;clear q0 q1;have q0:=Hc.c0;have q1:=Hc.c1;by_cases hlt:j<k
   ·have⟨eb,eo,u,v,e,Ob,Fo,FQ⟩:=(HO.ext (A6.trans Io)).at hlt;simp only[Pi,gl,gi]at e;obtain⟨rfl,rfl⟩:=e;have Tp:=I Ob;have T5:=nI l (x,y) j;have Vq:=Io.size;have hji:=SW j k;have hj0:=aE j;have C4:=D4.drew wr;have OY:=I (λ(w':J) (hk:D4 wr w')=>(⟨hk.o9 Fo,hk.o9 FQ,hk.o9 q0,hk.o9 q1,hk⟩:w'.cell? ⟨b0,o0+j*2,none⟩=some (.int .i64 u)/\w'.cell? ⟨b0,o0+j*2+1,none⟩=some (.int .i64 v)/\w'.cell? ⟨K,0,none⟩=some (.int .i64 x)/\w'.cell? ⟨K,1,none⟩=some (.int .i64 y)/\D4 wr w'));clear Ob;cases h1:(u == x)
    all_goals
     cases h2:(v == y)
    all_goals
     go_upto_region 14 with rfl;refine kp OY C4 λr9=>?_
     refine ks ⟨?_⟩;refine tk 3 ?_;refine tk 4 ?_;refine tk 5 ?_;refine ST k8 ?_ _;refine Op (Hc.grow C4) (Kd.grow C4) (HL.ext C4) (Io.trans C4) λH Lv G Z=>?_;clear C4;generalize wr.drew=wd at H Lv G Z⊢;have hsz5:=Z.size
    rotate_left 3
    ·have Ka:=I (sZ (k:=j) (show l[j]?.getD (0,0)=(x,y)by rw[Tp.o,R1 h1,R1 h2]))
     go_wp2_with (first
      | (at_builtin;refine bK rfl _ _ rfl wl (FB a4 n4 c4) _ rfl (G.ext ZL) _ 1 _ [(j:Int)+1] rfl (G3 j9) O t8 ?_;intro v9 w9 ho It r';have N6:=I (H.grown G.o ZL QM It);have HR9:=I (Lv.grown G.o ZL QM It);have Kq:=I (aj (Z.trans ZL) It (λj hj=>(G.lt j hj).1));obtain⟨a9,n9,c9,rfl,Qe⟩:=ho.var;have Mn:=I ho;clear ho It r'))
     refine sq ?_;exact⟨j+1,_,_,_,I (l8 HJ.o),by go_num,rfl,I (by rw[Ka.o];exact Mn),N6,HR9,Kq⟩
    all_goals
     have Ka:=I (vQ (k:=j) (show l[j]?.getD (0,0)≠(x,y)by rw[Tp.o];intro e;have e1:=(Zh e).1;have e2:=(Zh e).2;rw[e1]at h1;rw[e2]at h2;simp at h1 h2));go_wp2_with rfl;refine sq ?_;exact⟨j+1,_,_,_,I (l8 HJ.o),by go_num,rfl,I (by rw[Ka.o];exact G),H,Lv,Z⟩
   have Tk:j=k:=l8 HJ.o;subst Tk;have r0:=Kd.c0;have r1:=Kd.c1;have rf:=Kd.free;go_wp2;refine GE (v:=.tuple #[.agg #[.int .i64 x,.int .i64 y],FB a4 n4 c4,ato true]) (by simp[results,results191,go_sem,r0,r1,rf]) rfl ⟨⟨_,by rw[HZ.o];rfl,by rw[HZ.o];exact(HL.ML Kd.o x y).mono QM⟩,(Kd.put _ _).ext⟩
end
section
def Ob{W:J}{r G:Nat}{u v t:atY}{Q:Prop}(h:C6 W G u v t)(H:G≠r)(x y z:atY)(K:Q):(Gx W r x y z).cell? (IM G 0)=some u/\(Gx W r x y z).cell? (IM G 1)=some v/\(Gx W r x y z).cell? (IM G 2)=some t/\Q :=
 let⟨h0,h1,h2,_⟩:=C6.c h
 ⟨(Tz H _ _ _ 0).trans h0,(Tz H _ _ _ 1).trans h1,(Tz H _ _ _ 2).trans h2,K⟩
section
variable{w:J}{p:Int}{a b:o6}{n cap m dap:Nat}{V:o7}{X:o3}{base:Nat}
theorem yZ(hV:d6 w a n cap V)(hX:i8 w b m dap X)(hn:n<=1048576)(hm:m<=1048576)(k:Int):Calls prog 34 #[sess p a n cap b m dap,U k] w λe w'=>D7 w' w e (jF ⟨p,V,X⟩ k)/\D4 w w':=by
 have⟨W,hW,H,HV,HX,Ww,⟨c0,c1,c2,cf⟩,r0,r1,r2,rf⟩:=ml p hV hX;have Q4:=I (λ(w':J) (hx:D4 W w')=>io (p:=p) (HV.ext hx) (HX.ext hx) hn hm);have⟨Z,Q⟩:=Ok (jF ⟨p,V,X⟩ k);rw[<-Q.o];go_in
 go_upto_region 1 with rfl;rw[<-hW];clear hW;by_cases hk:1<=k/\k<=5
 ·have FA:A8 k 1 5=true:=by unfold A8;simp;omega
  have KS:=I (Q.trans (i7 hk));obtain⟨q,rfl⟩:∃q:Nat,k=q:=⟨k.toNat,by omega⟩;have Qh:=I (λ(w':J)=>dp (q:Int) w');have hN:=(bp q O).2;rw[eI]at KS;simp only[dT q O]at Qh;have⟨N,G⟩:=j7 (cN q);simp only[<-G]at Qh hN KS;have hmk:=jk N O;have hB:=H.r.put (U q) (GT W N N) d9;have K:(Gx W (w+1) (U q) (GT W N N) d9).heap.size=W.heap.size:=j9;obtain⟨z0,z1,z2,_⟩:=C6.c ((D4.alloc (Gx W (w+1) (U q) (GT W N N) d9) (SH (bF (List.replicate N 0)) 3)).blk hB);have hR:kg ((Gx W (w+1) (U q) (GT W N N) d9).alloc (SH (bF (List.replicate N 0)) 3)) W 3 (List.replicate N 0):=by
   have:=nE (Gx W (w+1) (U q) (GT W N N) d9) (SH (bF (List.replicate N 0)) 3);rw[K]at this;exact this
  have HZ:e9 (aG _ w (some (IM W 0)) N N none 0 0 (List.replicate N 0) []):=I ⟨hR.own Ww.o j9 O,og⟩;have XZ:=I ((H.x.Gx (bq _) (U q) (GT W N N) d9).trans (D4.alloc _ (SH (bF (List.replicate N 0)) 3)));have hlt:=IO H.r;clear G;go_wp2_with rfl;refine p9.mono ?_;rintro e w2 ⟨rfl,rfl⟩;go_wp2_with rfl;refine(Qh _).mono ?_;rintro e w3 ⟨rfl,rfl⟩;go_wp2;refine GE (by simp[results,results34,go_sem,r0,r1,r2,rf,z0,z1,z2]<;>rfl) rfl ⟨D7.of KS.o rfl HZ.o,XZ⟩
 have FA:A8 k 1 5=false:=by unfold A8;simp;omega
 have KS:=I (Q.trans (f8 hk));go_wp2_with rfl;refine p9.mono ?_;rintro e w1 ⟨rfl,rfl⟩;go_wp2_with rfl;refine(Q4 _ So).mono ?_;rintro e w2 ⟨⟨a1,n1,k1,b1,m1,d1,rfl,ho⟩,hx⟩;have GJ:=I (H.ext hx);have FM:=I (ho.mono Ww);have⟨r0,r1,r2,rf⟩:=GJ.r.c;have⟨z0,z1,z2,HZ,XZ⟩:=GJ.FP FM.o (p);have qq0:=@results34;exact vC
theorem yY(hV:d6 w a n cap V)(hX:i8 w b m dap X)(hn:n<=1048576)(hm:m<=1048576)(k:Int):Calls prog 35 #[sess p a n cap b m dap,U k] w λe w'=>D7 w' w e (kB ⟨p,V,X⟩ k)/\D4 w w':=by
 have⟨W,hW,HT,HV,HX,Ww,⟨c0,c1,c2,cf⟩,r0,r1,r2,rf⟩:=ml p hV hX;have Q4:=I (λ(w':J) (hx:D4 W w')=>io (p:=p) (HV.ext hx) (HX.ext hx) hn hm);have⟨Z,Kp⟩:=Ok (kB ⟨p,V,X⟩ k);rw[<-Kp.o];go_in
 go_upto_region 1 with rfl;rw[<-hW];clear hW;refine Fn (wN (w:=W) k) (λ(w':J)=>vX (w:=w') k) (show Z=if S0 k=[] then(⟨p,V,X⟩,PA) else(⟨Iq k,Ib k,[]⟩,R6)from Kp) λOt H Rh=>?_;have TS:=tN (S0 k) [];generalize Iq k=q,Ib k=L at H Rh;generalize S0 k=x at Ot Rh TS;generalize bs x=xt at Ot TS;rw[show(bs []).toList=([]:List UInt8)from dd []]at TS;by_cases h0:x=[]
 ·have KS:=I (Rh.trans (i7 h0));rw[bl h0]at TS;go_wp2_with rfl;refine qc Ot λw1 A6=>?_;have G:=I (HT.ext A6);have⟨c0,c1,c2,cf⟩:=G.s.c;have⟨r0,r1,r2,rf⟩:=G.r.c;go_wp2_with rfl;refine(Q4 _ A6).mono ?_;rintro e w2 ⟨⟨a1,n1,k1,b1,m1,d1,rfl,ho⟩,hx⟩;have K:=I (G.ext hx);have FM:=I (ho.mono G.x.size);clear hx;have⟨r0,r1,r2,rf⟩:=K.r.c;have⟨z0,z1,z2,HZ,XZ⟩:=K.FP FM.o (p);have qq0:=@results35;exact vC
 have KS:=I (Rh.trans (f8 h0));rw[RK h0]at TS;go_wp2_with rfl;refine qc Ot λw1 hx=>?_;have G:=I (HT.ext hx);go_wp2_with rfl;refine hF (H _) λw2 v ho hx=>?_;obtain⟨a1,n1,k1,rfl,HN1⟩:=ho.var;have K:=I (G.ext hx);have FM:e9 (aG w2 w a1 n1 k1 none 0 0 L []):=I ⟨ho.mono G.x.size,og⟩;have⟨r0,r1,r2,rf⟩:=K.r.c;have⟨z0,z1,z2,HZ,XZ⟩:=K.FP FM.o ((q:Int));have qq0:=@results35;exact vC
theorem CL(hV:d6 w a n cap V)(hX:i8 w b m dap X)(hn:n<=1048576)(hm:m<=1048576){pa:o6}{pn pc:Nat}{P:o3}{ok:Bool}(hP:ok=true->i8 w pa pn pc P/\pn<=100000):Calls prog 103 #[sess p a n cap b m dap,FB pa pn pc,ato ok] w λe w'=>D7 w' w e (dR ⟨p,V,X⟩ P ok)/\D4 w w':=by
 have⟨W,hW,HT,HV,HX,Ww,⟨c0,c1,c2,cf⟩,r0,r1,r2,rf⟩:=ml p hV hX;have Q4:=I (λ(w':J) (hx:D4 W w')=>io (p:=p) (HV.ext hx) (HX.ext hx) hn hm);have⟨Z,KS⟩:=Ok (dR ⟨p,V,X⟩ P ok);rw[<-KS.o];have HP:=I hP;go_in
 go_upto_region 1 with rfl;rw[<-hW];clear hW;go_wp2_with rfl;refine(Q4 _ So).mono ?_;rintro e w2 ⟨⟨a1,n1,k1,b1,m1,d1,rfl,ho⟩,hx⟩;refine Op (show C6 (w2.alloc (SH #[U p,FB a1 n1 k1,FB b1 m1 d1] 34)) w2 (U p) (FB a1 n1 k1) (FB b1 m1 d1)from LE rfl) (hx.trans (D4.alloc w2 (SH #[U p,FB a1 n1 k1,FB b1 m1 d1] 34))) ((ho.mono Ww).ext (D4.alloc w2 (SH #[U p,FB a1 n1 k1,FB b1 m1 d1] 34))) (show w.heap.size+1<w2.heap.size from C' (IO HT.r) hx.size) λF1 C5 FM Pu=>?_;have⟨w3,Gn⟩:=j7 (w2.alloc (SH #[U p,FB a1 n1 k1,FB b1 m1 d1] 34));rw[<-Gn]at F1 C5 FM;go_upto_region 2 with rfl;rw[<-Gn];clear Gn;generalize w2.heap.size=G at F1 Pu⊢;have GJ:=I (HT.ext C5);have⟨d0,d1',d2,df⟩:=C6.c F1.o;have⟨c0,c1,c2,cf⟩:=GJ.s.c;have⟨r0,r1,r2,rf⟩:=GJ.r.c;cases ok with
 | false =>
   have⟨z0,z1,z2,HZ,XZ⟩:=GJ.FP FM.o (p);have qq0:=@results103;exact vC
 | true =>
   have⟨hp,hpn⟩:=HP.o rfl;have Ka:=I (λ(w':J) (hx:D4 w w')=>js (hp.ext hx) O);have HFV:=I (λ(w':J) (hx:D4 w w')=>uF (hp.ext hx) hpn);have⟨tt,Pq⟩:=Ok (bs (Sg P));simp only[<-Pq.o]at HFV;go_wp2_with rfl;refine PP (Ka _ GJ.x) λw4 v ho hx=>?_;obtain⟨pa',pn',pc',rfl,HN4⟩:=ho.var;refine Op (hx.blk F1) (GJ.ext hx) (FM.ext hx) (ho.mono GJ.x.size) λHc Pr Gh HP4=>?_;have⟨d0,d1',d2,df⟩:=C6.c Hc.o;have⟨w5,Gz⟩:=j7 (w4.setCell (IM G 2) (FB pa' pn' pc'));have FG:=I (show C6 w5 G (U p) (FB a1 n1 k1) (FB pa' pn' pc')by rw[Gz];exact C6.Vk Hc.o _);have Fj:=I (show aG w5 w a1 n1 k1 pa' pn' pc' V P by rw[Gz];exact aG.set2 (X:=P) ⟨Gh.v,HP4⟩ Hc.o _)
   have L7:=I (show b9 w w5 p a n cap b m dap by
    rw[Gz];have:=Pu.o;exact⟨Pr.x.store 2 O _,(If _ _ _ _ t8).trans Pr.s,(If _ _ _ _ t8).trans Pr.r⟩)
   go_upto_region 5 with rfl;rw[<-Gz];clear Gz;have H:=D4.drew w5;have HK:=I (λ(w':J) (H:D4 w5 w')=>(let⟨x0,x1,x2,_⟩:=C6.c (H.blk FG);⟨x0,x1,x2,L7.x.trans H⟩:w'.cell? (IM G 0)=some (U p)/\w'.cell? (IM G 1)=some (FB a1 n1 k1)/\w'.cell? (IM G 2)=some (FB pa' pn' pc')/\D4 w w'));refine kp HK H λr9=>?_
   refine tk 0 ?_;refine tk 1 ?_;refine rd 2 λK hK=>?_;go_simp
   (go_at_call 184;refine i6 (HFV _ (L7.x.trans H)) λw6 hx=>?_;have H:=H.trans hx)
   go_wp2_with rfl;refine KO (HK _ H) λr9=>?_;have Nz:=I (L7.ext H);have Tt:=I (Fj.ext H);have⟨r0,r1,r2,rf⟩:=Nz.r.c;have⟨z0,z1,z2,HZ,XZ⟩:=Nz.FP Tt.o p;refine rd 3 λK hK=>?_;go_simp;refine hK.out _ _ ?_ (λr9=>?_)
   ·exact Ob (H.blk FG) (l8 Pu.o) _ _ _ XZ.o
   try simp only[Act.put,sA,sB,sC]
   refine tk 4 ?_;refine ST k8 ?_ _;go_wp2;refine GE (by simp[results,results103,go_sem,r0,r1,r2,rf,z0,z1,z2]<;>rfl) rfl ⟨D7.of KS.o Pq.o HZ.o,XZ⟩
end
section
variable{w:J}{p:Int}{a b:o6}{n cap m dap:Nat}{V:o7}{X:o3}{base:Nat}
theorem EU(hV:d6 w a n cap V)(hX:i8 w b m dap X)(hn:n<=1048576)(hm:m<=1048576):Calls prog 39 #[sess p a n cap b m dap] w λe w'=>D7 w' w e (GZ ⟨p,V,X⟩ 4)/\D4 w w':=by
 have⟨W,hW,HT,HV,HX,Ww,⟨c0,c1,c2,cf⟩,r0,r1,r2,rf⟩:=ml p hV hX;have Q4:=I (λ(w':J) (hx:D4 W w')=>io (p:=p) (HV.ext hx) (HX.ext hx) hn hm);have⟨Z,hZ⟩:=j7 (GZ ⟨p,V,X⟩ 4);rw[<-hZ];have⟨c,hc4,OF⟩:=wX ⟨p,V,X⟩;have NG:=HV.hlen;have⟨P,hP⟩:=j7 (jQ ⟨p,V,X⟩);have GG:=I (λ(w':J) (hx:D4 W w')=>show Calls prog 104 #[Id p a n cap] w' λe w''=>(∃pa pn pc wa wn wc,e=atn (.agg #[U c,FB pa pn pc,FB wa wn wc])/\(c=1->ZM w'' w' (FB pa pn pc) P))/\D4 w' w'' by
  refine(CD (p:=p) (HV.ext hx)).mono ?_;rintro e w'' ⟨⟨pa,pn,pc,wa,wn,wc,rfl,ho⟩,C9⟩;rw[<-NG,<-re]at ho⊢;refine⟨⟨pa,pn,pc,wa,wn,wc,by rw[<-OF];rfl,λH=>by rw[hP];exact ho (OF.trans (by rw[H];rfl))⟩,C9⟩)
 have Ka:=I (λ(H:c=1)=>show Lp P<=5 by rw[hP];exact te (by rw[OF,H];rfl));have Uz:=I (λ(w':J)=>CC (w:=w') c hc4);have Ip:=I (show Z=(if c=1 then⟨p,V,P⟩ else⟨p,V,X⟩,iu (c:Int))by
  rw[hZ];show(if iP ⟨p,V,X⟩=1 then(⟨p,V,jQ ⟨p,V,X⟩⟩:St) else⟨p,V,X⟩,iu (iP ⟨p,V,X⟩))=_;rw[OF,<-hP];by_cases H:c=1
  ·rw[i7 H,i7 O]
  rw[f8 H,f8 O])
 have⟨tx,HTX⟩:=Ok (bs (iu (c:Int)));simp only[<-HTX.o]at Uz;clear OF hP NG;clear hZ;go_in
 go_upto_region 1 with rfl;rw[<-hW];clear hW;go_wp2_with rfl;refine(Q4 _ So).mono ?_;rintro e w2 ⟨⟨a1,n1,k1,b1,m1,d1,rfl,ho⟩,hx⟩;refine Op (show C6 (w2.alloc (SH #[U p,FB a1 n1 k1,FB b1 m1 d1] 34)) w2 (U p) (FB a1 n1 k1) (FB b1 m1 d1)from LE rfl) (hx.trans (D4.alloc w2 (SH #[U p,FB a1 n1 k1,FB b1 m1 d1] 34))) ((ho.mono Ww).ext (D4.alloc w2 (SH #[U p,FB a1 n1 k1,FB b1 m1 d1] 34))) (show w.heap.size+1<w2.heap.size from C' (IO HT.r) hx.size) λF1 C5 C8 Pu=>?_;have⟨w3,Gn⟩:=j7 (w2.alloc (SH #[U p,FB a1 n1 k1,FB b1 m1 d1] 34));rw[<-Gn]at F1 C5 C8;go_upto_region 2 with rfl;rw[<-Gn];clear Gn;generalize w2.heap.size=G at F1 Pu⊢;have GU:=I (HT.ext C5);have⟨d0,d1',d2,df⟩:=C6.c F1.o;have⟨c0,c1,c2,cf⟩:=GU.s.c;have⟨r0,r1,r2,rf⟩:=GU.r.c;go_wp2_with rfl;refine(GG _ C5).mono ?_;rintro e w4 ⟨⟨pa,pn,pc,wa,wn,wc,rfl,ho⟩,hx⟩;have KT:=I (λ(H:c=1)=>(ho H).rats.ext (D4.alloc w4 (SH #[U c,FB pa pn pc,FB wa wn wc] 92)))
 refine kv (ah w4 (SH #[U c,FB pa pn pc,FB wa wn wc] 92) _ rfl) (C5.trans (hx.trans (D4.alloc w4 (SH #[U c,FB pa pn pc,FB wa wn wc] 92)))) (C8.ext (hx.trans (D4.alloc w4 (SH #[U c,FB pa pn pc,FB wa wn wc] 92)))) ((hx.trans (D4.alloc w4 (SH #[U c,FB pa pn pc,FB wa wn wc] 92))).blk F1) (show G<w4.heap.size from C' (IO F1) hx.size) λHB Hh Fj FG Vd=>?_;have⟨w5,Gz⟩:=j7 (w4.alloc (SH #[U c,FB pa pn pc,FB wa wn wc] 92));rw[<-Gz]at KT HB Hh Fj FG;go_upto_region 3 with rfl;rw[<-Gz];clear Gz;generalize w4.heap.size=g at HB Vd⊢;have⟨f0,f1,f2,ff⟩:=fS HB.o;have⟨d0,d1',d2,df⟩:=C6.c FG.o;have L7:=I (HT.ext Hh)
 go_upto_if 13 with rfl
 go_cut [2] (λv wx=>v=ats (some (IM (w+1) 0))/\∃(b4:o6) (m4 d4:Nat) (X4:o3),e9 (b9 w wx p a n cap b m dap)/\e9 (C6 wx G (U p) (FB a1 n1 k1) (FB b4 m4 d4))/\e9 (aG wx w a1 n1 k1 b4 m4 d4 V X4)/\e9 (wx.cell? (IM g 0)=some (U c))/\e9 (Z=(⟨p,V,X4⟩,iu (c:Int))))
 case first =>
  by_cases H:c=1
  ·have MG:pn<=1099511627776:=by have h2:=Ka.o H;have h3:=(KT H).hlen;omega
   have H4:=I (js (KT H) MG);have heq:((c:Int) == 1)=true:=by simp[H]
   go_wp2_with rfl;refine PP H4 λw6 v ho hx=>?_;obtain⟨a6,n6,c6,rfl,Jy⟩:=ho.var;have hB6:=hx.blk FG.o;have U6:=I (show b9 w (w6.setCell (IM G 2) (FB a6 n6 c6)) p a n cap b m dap from by
    have:=Pu.o;exact⟨(L7.ext hx).x.store 2 O _,(If _ _ _ _ t8).trans (L7.ext hx).s,(If _ _ _ _ t8).trans (L7.ext hx).r⟩)
   refine Fn (C6.Vk hB6 (FB a6 n6 c6)) (aG.set2 (X:=P) ⟨(Fj.ext hx).v,ho.mono L7.x.size⟩ hB6 (FB a6 n6 c6)) (show(w6.setCell (IM G 2) (FB a6 n6 c6)).cell? (IM g 0)=some (U c)from(lI (If _ _ _ _ (by have:=Vd.o;simp;omega)) 0).trans (hx.o9 f0)) λKe Gp WC=>?_;have⟨d0,d1',d2,df⟩:=C6.c hB6;go_wp2;go_meet;exact⟨rfl,_,_,_,_,U6,Ke,Gp,WC,I (Ip.trans (by rw[i7 H]))⟩
  have hne:((c:Int) == 1)=false:=t8;go_wp2;go_meet;exact⟨rfl,_,_,_,_,L7,FG,Fj,I f0,I (Ip.trans (by rw[f8 H]))⟩
 obtain⟨rfl,b4,m4,d4,X4,Pr,Hc,Gh,V7,Lu⟩:=hcut;have HK:=I (λ(w':J) (hk:D4 wc w')=>(let⟨x0,x1,x2,_⟩:=C6.c (hk.blk Hc);⟨hk.o9 V7.o,x0,x1,x2,Pr.x.trans hk⟩:w'.cell? (IM g 0)=some (U c)/\w'.cell? (IM G 0)=some (U p)/\w'.cell? (IM G 1)=some (FB a1 n1 k1)/\w'.cell? (IM G 2)=some (FB b4 m4 d4)/\D4 w w'));have hk:=D4.drew wc;go_upto_region 5 with rfl;refine kp HK hk λr9=>?_
 refine ks ⟨?_⟩;refine rd 3 λK hK=>?_;go_simp
 (go_at_call 106;refine i6 (Uz _) λw5 F'=>?_;have hk:=hk.trans F')
 go_wp2_with rfl;refine KO (HK _ hk) λr9=>?_;have Nz:=I (Pr.ext hk);have Tt:=I (Gh.ext hk);have⟨r0,r1,r2,rf⟩:=Nz.r.c;have⟨z0,z1,z2,HZ,XZ⟩:=Nz.FP Tt.o p;refine rd 4 λK hK=>?_;go_simp;refine hK.out _ _ ?_ (λr9=>?_)
 ·exact⟨(Tz (by have:=Pu.o;have:=Vd.o;omega) _ _ _ 0).trans (hk.o9 V7),Ob (hk.blk Hc) (l8 Pu.o) _ _ _ XZ.o⟩
 try simp only[Act.put,sA,sB,sC]
 refine tk 5 ?_;refine ST k8 ?_ _;go_wp2;refine GE (by simp[results,results39,go_sem,r0,r1,r2,rf,z0,z1,z2]<;>rfl) rfl ⟨D7.of Lu.o HTX.o HZ.o,XZ⟩
theorem CM(hV:d6 w a n cap V)(hX:i8 w b m dap X)(hn:n<=1048576)(hm:m<=1048576)(t:List UInt8)(hi:WP t<=3):Calls prog 38 #[sess p a n cap b m dap,atr (bs t)] w λe w'=>D7 w' w e (GZ ⟨p,V,X⟩ (WP t))/\D4 w w':=by
 obtain⟨_,e1,e2,e3,_⟩:=w9 t;have⟨W,hW,HT,HV,HX,Ww,⟨c0,c1,c2,cf⟩,r0,r1,r2,rf⟩:=ml p hV hX;have⟨Z,hZ⟩:=j7 (GZ ⟨p,V,X⟩ (WP t));rw[<-hZ];refine y5 hZ (λ(w':J) (hx:D4 W w') (pa:o6) (pn pc:Nat) (P:o3) (ok:Bool) (hP:ok=true->i8 w' pa pn pc P/\pn<=100000)=>CL (p:=p) (HV.ext hx) (HX.ext hx) hn hm hP) (mL (x:=p) HV) (λ(w':J) (hx:D4 W w')=>uD (x:=p) (HV.ext hx)) (λ(w':J) (hx:D4 W w')=>tD (p:=p) (HV.ext hx)) (λ(w':J) (hx:D4 W w')=>tE (p:=p) (HV.ext hx)) λKp Q1 GG WD NC HNV=>?_;have⟨i,Jm⟩:=j7 (WP t);rw[<-Jm]at e1 e2 e3 hi hZ;have⟨G,acU⟩:=j7 (ak p V);have⟨P0,hP0⟩:=j7 (fW p V);have⟨P1,K⟩:=j7 (it p V);have⟨S7,acT⟩:=j7 (KC p V);have⟨P2,H⟩:=j7 (Oy p V);have⟨N,hN⟩:=j7 (JX p V);have h0:=pr p V;have h1:=oC p V;have h2:=rx p V;have h3:=(ux p V).1;have hz:Z=if i=0 then dR ⟨p,V,X⟩ P0 G else if i=1 then dR ⟨p,V,X⟩ P1 G else if i=2 then dR ⟨p,V,X⟩ P2 S7 else dR ⟨p,V,X⟩ N.pt N.ok:=by
  rw[hZ,acU,hP0,K,acT,H,hN];obtain rfl|rfl|rfl|rfl:i=0∨i=1∨i=2∨i=3:=O
  all_goals rfl
 unfold jw at NC;rw[<-acU,<-hP0]at GG;simp only[<-acU,<-K]at WD;simp only[<-acT,<-H]at NC;simp only[<-hN]at HNV;rw[<-hP0]at h0;rw[<-K]at h1;rw[<-acT,<-H]at h2;rw[<-hN]at h3;refine kv h0 h1 h2 h3 hz λPt N1 HL2 Qz HZM=>?_;generalize bs t=tt at e1 e2 e3⊢;clear Jm acU hP0 K acT H hN;clear hZ;go_in
 go_upto_region 1 with rfl;rw[<-hW];clear hW;go_wp2_with rfl;refine PP GG λw1 v ho hx=>?_;obtain⟨pa,pn,pc,rfl,HN1⟩:=ho.var;have A6:=I hx;have HPS:=I ho.rats;have⟨c0,c1,c2,cf⟩:=(HT.ext A6).s.c
 go_upto_block 0 with rfl
 go_cut [6,7] (λvp vo wx=>∃(pa:o6) (pn pc:Nat) (ok:Bool),vp=FB pa pn pc/\vo=ato ok/\e9 (∃P,(ok=true->i8 wx pa pn pc P/\pn<=100000)/\Z=dR ⟨p,V,X⟩ P ok)/\e9 (D4 W wx))
 case first =>
  obtain rfl|rfl|rfl|rfl:i=0∨i=1∨i=2∨i=3:=O
  all_goals simp only[Nat.reduceBEq]at e1 e2 e3
  ·have Ps:=I (show∃P,(G=true->i8 w1 pa pn pc P/\pn<=100000)/\Z=dR ⟨p,V,X⟩ P G from⟨P0,λ_=>⟨HPS,by have:=HN1.o;have:=Pt.o;omega⟩,HZM⟩);go_wp2;go_meet;exact⟨_,_,_,_,rfl,rfl,Ps,A6⟩
  ·go_wp2_with rfl;refine PP (WD _ A6) λw6 v ho hx=>?_;obtain⟨TH,Ro,TF,rfl,Jb⟩:=ho.var;have Ps:=I (show∃P,(G=true->i8 w6 TH Ro TF P/\Ro<=100000)/\Z=dR ⟨p,V,X⟩ P G from⟨P1,λ_=>⟨ho.rats,by have:=Jb.o;have:=N1.o;omega⟩,HZM⟩);have Hg:=I (A6.trans hx);go_wp2;go_meet;exact⟨_,_,_,_,rfl,rfl,Ps,Hg⟩
  ·go_wp2_with rfl;refine(NC _ A6).mono ?_;rintro e w6 ⟨⟨x,y,TH,Ro,TF,wa,wn,wc,rfl,ho⟩,hx⟩;refine Fn (show∃P,(S7=true->i8 (w6.alloc (SH #[ato S7,U x,U y,FB TH Ro TF,FB wa wn wc] 85)) TH Ro TF P/\Ro<=100000)/\Z=dR ⟨p,V,X⟩ P S7 from⟨P2,λhh=>⟨(ho hh).2.rats.ext ZL,by have h1:=(ho hh).2.rats.hlen;have h2:=HL2.o hh;omega⟩,HZM⟩) (ah w6 (SH #[ato S7,U x,U y,FB TH Ro TF,FB wa wn wc] 85) _ rfl) (A6.trans (hx.trans (D4.alloc w6 (SH #[ato S7,U x,U y,FB TH Ro TF,FB wa wn wc] 85)))) λPs Ke Hg=>?_;have⟨w7,Ie⟩:=j7 (w6.alloc (SH #[ato S7,U x,U y,FB TH Ro TF,FB wa wn wc] 85));rw[<-Ie]at Ke Hg Ps;go_upto_region 7 with rfl;rw[<-Ie];clear Ie;generalize w6.heap.size=g6 at Ke⊢;have⟨f0,f1,f2,f3,f4,ff⟩:=P4 Ke.o;go_wp2;go_meet;exact⟨_,_,_,_,rfl,rfl,Ps,Hg⟩
  obtain⟨S7,P3,st,ro⟩:=N;go_wp2_with rfl;refine(HNV _ A6).mono ?_;rintro e w6 ⟨⟨TH,Ro,TF,sa,sn,sc,rfl,ho,_⟩,hx⟩;refine Fn (show∃P,(S7=true->i8 (w6.alloc (SH #[ato S7,FB TH Ro TF,FB sa sn sc,U ((ro:Nat):Int)] 89)) TH Ro TF P/\Ro<=100000)/\Z=dR ⟨p,V,X⟩ P S7 from⟨P3,λ_=>⟨ho.rats.ext ZL,by have h1:Lp P3=Ro:=ho.rats.hlen;have h2:Lp P3<=5:=Qz.o;omega⟩,HZM⟩) (ah w6 (SH #[ato S7,FB TH Ro TF,FB sa sn sc,U ((ro:Nat):Int)] 89) _ rfl) (A6.trans (hx.trans (D4.alloc w6 (SH #[ato S7,FB TH Ro TF,FB sa sn sc,U ((ro:Nat):Int)] 89)))) λPs Ke Hg=>?_;have⟨w7,Ie⟩:=j7 (w6.alloc (SH #[ato S7,FB TH Ro TF,FB sa sn sc,U ((ro:Nat):Int)] 89));rw[<-Ie]at Ke Hg Ps;go_upto_region 11 with rfl;rw[<-Ie];clear Ie;generalize w6.heap.size=g6 at Ke⊢;have⟨f0,f1,f2,f3,ff⟩:=IT Ke.o;go_wp2;go_meet;exact⟨_,_,_,_,rfl,rfl,Ps,Hg⟩
 obtain⟨pa4,pn4,pc4,ok,rfl,rfl,HP4,Io⟩:=hcut;have⟨P,hP,hz⟩:=HP4.o;have Gc:=I (Q1 _ Io.o pa4 pn4 pc4 P ok hP);generalize dR ⟨p,V,X⟩ P ok=R at Gc hz;have Lu:=I hz;have Pr:=I (HT.ext Io);have⟨c0,c1,c2,cf⟩:=Pr.s.c;go_wp2_with rfl;refine Gc.mono ?_;rintro e w6 ⟨⟨a',n',k',b',m',d',rfl,ho⟩,hx⟩;have⟨tr,Kr⟩:=Ok (bs R.2);have⟨rp,NW⟩:=Ok R.1.p;rw[<-Kr.o,<-NW.o];refine Fn (show C6 (w6.alloc (SH #[U rp,FB a' n' k',FB b' m' d'] 34)) w6 (U rp) (FB a' n' k') (FB b' m' d')from LE rfl) ((Pr.ext hx).ext (D4.alloc w6 (SH #[U rp,FB a' n' k',FB b' m' d'] 34))) ((ho.mono Pr.x.size).ext (D4.alloc w6 (SH #[U rp,FB a' n' k',FB b' m' d'] 34))) λKX Uk Kb=>?_;have⟨w7,Ie⟩:=j7 (w6.alloc (SH #[U rp,FB a' n' k',FB b' m' d'] 34));rw[<-Ie]at KX Uk Kb;go_upto_region 14 with rfl;rw[<-Ie];clear Ie;generalize w6.heap.size=g7 at KX⊢;have⟨d0,d1',d2,df⟩:=C6.c KX.o;have⟨r0,r1,r2,rf⟩:=Uk.r.c;have⟨z0,z1,z2,HZ,XZ⟩:=Uk.FP Kb.o rp;go_wp2
 refine GE (by simp[results,results38,go_sem,r0,r1,r2,rf,z0,z1,z2]<;>rfl) rfl ⟨D7.re Lu.o NW.o Kr.o HZ.o,XZ⟩
end
def xU{c d:UInt8}(L:List (List UInt8)):Lp (Lib.join L [c])=Lp (Lib.join L [d]):=by
 cases L with
 | nil=>rfl
 | cons x r =>
   rw[Mt,Mt,ar,ar];congr 1;unfold Lib.joinTail
   induction r with
   | nil=>rfl
   | cons y q ih =>
     simp only[Zp,aB,ar,mg,D1]at ih⊢;omega
def YM(x z:List UInt8)(A:List (List UInt8)):Lib.join (x::(A++[z])) [32]=Lib.join (x::A) [32]++([32]++z):=by
 rw[Mt,Mt];unfold Lib.joinTail;simp
section
variable{w:J}{p:Int}{a b:o6}{n cap m dap:Nat}{V:o7}{X:o3}{base:Nat}
theorem Ac(h:d6 w a n cap V):
 f9 111 #[Id p a n cap] w (atr (bs (if ak p V=true then eh p.toNat V else []))):=by
 cases H:ak p V
 ·have X2:=I (D4.alloc w (SH #[U p,FB a n cap] 31));have G:=I (bY (p:=p) (h.ext X2));rw[H]at G;(try unfold f9);go_in
  go_wp2_with rfl;refine i6 G λw1 hx=>?_;exact Ni
 obtain⟨q,rfl,h1,h5,hlen,_,hb⟩:=ap H;rw[i7 rfl,eI];exact ph h (λj=>by have:=du hb j;omega)
theorem CK(hV:d6 w a n cap V)(hX:i8 w b m dap X):f9 108 #[sess p a n cap b m dap] w (atr (bs (oE ⟨p,V,X⟩))):=by
 have HC:oE ⟨p,V,X⟩=eC [99,111,114,101] (fK p V X)++([32]++(eC [102,97,105,114] (ak p V&&decide (fW p V=X))++([32]++eC [110,117,99,108,101,111,108,117,115] (jA p V X)))):=rfl;have⟨Z,hZ⟩:=j7 (oE ⟨p,V,X⟩);rw[<-hZ]at HC⊢;clear hZ;have⟨W,hW⟩:=j7 (w.alloc (SH #[.int .i64 p,FB a n cap,FB b m dap] 34));have Ig:=I (show D4 w W by rw[hW];exact ZL);have HB:=I (show C6 W w (.int .i64 p) (FB a n cap) (FB b m dap)by rw[hW];exact LE rfl);have HV:=I (hV.ext Ig);have HX:=I (hX.ext Ig);have Od:=mL (x:=p) HV.o;have⟨ok,D9⟩:=j7 (ak p V);have⟨P,hP⟩:=j7 (fW p V);rw[<-D9,<-hP]at Od HC;have GG:=I Od;have Ip:=I HC;clear D9 hP Od HC;have⟨c0,c1,c2,cf⟩:=C6.c HB.o;clear hV hX;(try unfold f9);go_in
 go_upto_region 1 with rfl;rw[<-hW];clear hW;go_wp2_with rfl;refine PP GG λw1 v ho hx=>?_;obtain⟨pa,pn,pc,rfl,HN⟩:=ho.var;have KT:=I ho;have H:=I hx;clear ho HN hx c0 c1 c2 cf;have⟨c0,c1,c2,cf⟩:=C6.c (H.blk HB);refine Op (λ(w':J) (hk:D4 w1 w')=>(let⟨x0,x1,x2,_⟩:=C6.c ((H.trans hk).blk HB);⟨x0,x1,x2,Ig.trans (H.trans hk)⟩:w'.cell? ⟨w,0,none⟩=some (.int .i64 p)/\w'.cell? ⟨w,1,none⟩=some (FB a n cap)/\w'.cell? ⟨w,2,none⟩=some (FB b m dap)/\D4 w w')) (λ(w':J) (hx:D4 w1 w')=>Xw (p:=p) (HV.ext (H.trans hx)) (HX.ext (H.trans hx))) (λ(w':J) (hx:D4 w1 w')=>wM (KT.rats.ext hx) (HX.ext (H.trans hx))) (λ(w':J) (hx:D4 w1 w')=>wO (p:=p) (HV.ext (H.trans hx)) (HX.ext (H.trans hx))) λOY HIC Ve HNU=>?_;have hon:=Ip.o;have⟨B1,hB1⟩:=j7 (fK p V X);have⟨B2,RF⟩:=j7 (decide (P=X));have⟨B3,MJ⟩:=j7 (jA p V X);simp only[<-hB1]at HIC;simp only[<-RF]at Ve;simp only[<-MJ]at HNU;rw[<-hB1,<-RF,<-MJ]at hon;clear hB1 RF MJ;have HW1:=I (λ(w':J)=>zf (w:=w') [99,111,114,101] B1);have G:=I (λ(w':J)=>zf (w:=w') [102,97,105,114] (ok&&B2))
 have HW3:=I (λ(w':J)=>zf (w:=w') [110,117,99,108,101,111,108,117,115] B3);have⟨u1,LP⟩:=j7 (bs (eC [99,111,114,101] B1));have⟨u2,Tc⟩:=j7 (bs (eC [102,97,105,114] (ok&&B2)));have⟨u3,Y8⟩:=j7 (bs (eC [110,117,99,108,101,111,108,117,115] B3));have J2:u1.size<=100:=by rw[LP,aX];have:=iI [99,111,114,101] B1;simp at this;omega
 have Pa:u2.size<=100:=by rw[Tc,aX];have:=iI [102,97,105,114] (ok&&B2);simp at this;omega
 have LR:u3.size<=100:=by rw[Y8,aX];have:=iI [110,117,99,108,101,111,108,117,115] B3;simp at this;omega
 have HTX:=I (show u1++{ data:=#[32] }++u2++{ data:=#[32] }++u3=bs Z by
  rw[LP,Tc,Y8,hon];show bs _++bs [32]++bs _++bs [32]++bs _=_;rw[cI,cI,cI,cI];simp only[vl])
 simp only[<-LP]at HW1;simp only[<-Tc]at G;simp only[<-Y8]at HW3;have Mh:¬9223372036854775807<u1.size+1:=O;have KZ:¬9223372036854775807<u1.size+1+u2.size:=O;have hz3:¬9223372036854775807<u1.size+1+u2.size+1:=O;have hz4:¬9223372036854775807<u1.size+1+u2.size+1+u3.size:=O;clear LP Tc Y8 J2 Pa LR hon c0 c1 c2 cf;have hk:=D4.drew w1;go_upto_region 2 with rfl;refine kp OY hk λr9=>?_
 refine ks ⟨?_⟩;refine tk 3 ?_;refine tk 7 ?_;refine tk 17 ?_;refine UN ⟨?_⟩;refine rd 4 λK hK=>?_;go_simp
 (go_at_call 188;refine i6 (HIC _ hk) λw2 hx=>?_;have hk:=hk.trans hx;clear hx)
 go_wp2_with rfl;refine KO (OY _ hk) λr9=>?_;refine rd 5 λK hK=>?_;go_simp
 (go_at_call 187;refine i6 (HW1 _) λw3 hx=>?_;have hk:=hk.trans hx;clear hx)
 go_wp2_with rfl;refine KO (OY _ hk) λr9=>?_;refine tk 6 ?_;refine tk 8 ?_;cases ok
 case' false =>
  rw[TR]at G;refine tk 9 ?_;refine tk 10 ?_;refine tk 11 ?_;refine tk 12 ?_
 case' true =>
  rw[wq]at G;refine tk 9 ?_;refine tk 10 ?_;refine tk 11 ?_;refine rd 12 λK hK=>?_;go_simp
  (go_at_call 189;refine i6 (Ve _ hk) λw4 hx=>?_;have hk:=hk.trans hx.ext;clear hx)
  go_wp2_with rfl;refine KO (OY _ hk) λr9=>?_
 all_goals
  refine tk 13 ?_;refine rd 14 λK hK=>?_;go_simp
  (go_at_call 187;refine i6 (G _) λw5 hx=>?_;have hk:=hk.trans hx;clear hx)
  go_wp2_with rfl;refine KO (OY _ hk) λr9=>?_;refine tk 15 ?_;refine tk 16 ?_;refine rd 21 λK hK=>?_;go_simp
  (go_at_call 190;refine i6 (HNU _ hk) λw6 hx=>?_;have hk:=hk.trans hx;clear hx)
  go_wp2_with rfl;refine KO (OY _ hk) λr9=>?_;refine rd 22 λK hK=>?_;go_simp
  (go_at_call 187;refine i6 (HW3 _) λw7 hx=>?_;have hk:=hk.trans hx;clear hx)
  go_wp2_with rfl;refine KO (OY _ hk) λr9=>?_;refine tk 23 ?_;refine tk 24 ?_;refine ST k8 ?_ _;have HXF:=I ((Ig.trans H).trans hk);go_wp2;go_ret;exact⟨cu HTX.o,HXF⟩
end
end
section
section
variable{w:J}{p:Int}{a b:o6}{n cap m dap:Nat}{V:o7}{X:o3}{base:Nat}
theorem CO(hV:d6 w a n cap V)(hX:i8 w b m dap X):f9 109 #[sess p a n cap b m dap] w (atr (bs (pD ⟨p,V,X⟩))):=by
 have HC:pD ⟨p,V,X⟩=(match fG p V X with|none=>PA|some r=>Lib.join (FE r.1::r.2.map λc=>bJ c) [32]):=rfl;generalize pD ⟨p,V,X⟩=Z at HC⊢;have⟨W,hW⟩:=j7 (w.alloc (SH #[U p,FB a n cap,FB b m dap] 34));have Ig:=I (show D4 w W by rw[hW];exact ZL);have HB:=I (show C6 W w (U p) (FB a n cap) (FB b m dap)by rw[hW];exact LE rfl);have HV:=I (hV.ext Ig);have ab:=I (hX.ext Ig);have Od:=wQ (p:=p) HV.o ab.o;unfold NY at Od;obtain⟨x,y,C,B,GG,Ip,HCD⟩:∃(x y:Int) (C:o7) (B:Bool),e9 (Calls Tryz.prog 191 #[Id p a n cap,FB b m dap] W λe w'=>(∃v,e=atn (.tuple #[Ge x y,v,ato B])/\y9 w' W v C)/\D4 W w')/\e9 (Z=if B=true then Lib.join (FE (x,y)::C.map λc=>bJ c) [32] else PA)/\e9 (B=true->(∀c∈C,∃s:Nat,s<32/\c=s)/\Lp C<=32):=by
  cases hr:fG p V X with
  | none=>rw[hr]at Od HC;exact⟨0,0,[],false,I Od,I HC,I (λh=>by cases h)⟩
  | some r=>rw[hr]at Od HC;exact⟨r.1.1,r.1.2,r.2,true,I Od,I HC,I (λ_=>wB hr)⟩
 clear Od HC;have⟨c0,c1,c2,cf⟩:=C6.c HB.o;clear hV hX;unfold f9;go_in
 go_upto_region 1 with rfl;rw[<-hW];clear hW;go_wp2_with rfl;refine hF GG λw1 v ho hx=>?_;obtain⟨pa,pn,pc,rfl,HN⟩:=ho.var;refine Fn (ho.ints.ext (D4.alloc w1 (SH #[U x,U y] 80))) (ai.new (D4.refl w1) x y) ((Ig.trans hx).trans (D4.alloc w1 (SH #[U x,U y] 80))) λHI Ga C7=>?_;have⟨w2,G⟩:=j7 (w1.alloc (SH #[U x,U y] 80));rw[<-G]at HI Ga C7;go_upto_region 2 with rfl;rw[<-G];clear G ho c0 c1 c2 cf;generalize w1.heap.size=g at Ga⊢;cases B
 case' false =>
  have HA:e9 (Z=PA):=Ip.trans rfl;go_wp2;go_ret;exact⟨cu (by rw[HA.o];rfl),C7⟩
 case' true =>
  have HA:e9 (Z=Lib.join (FE (x,y)::C.map λc=>bJ c) [32]):=Ip.trans rfl;have⟨RD,K6⟩:=HCD.o rfl;have WB:=I RD;have Rk:=I (mv (w:=w2) x y);have Nf:=rC (x,y);have q0:=Ga.c0;have q1:=Ga.c1;have hpn:pn<=32:=l8 HN.o;have⟨akK,aj6⟩:=HI.ath;generalize FE (x,y)=K at Rk Nf HA;have⟨u0,Li⟩:=j7 (bs K);rw[<-Li]at Rk;have HU0:=I (show u0=bs (Lib.join (K::(C.take 0).map λc=>bJ c) [32])by rw[Li];simp[RB]);have Sb:=I (show u0.size<=50 by rw[Li,aX];exact Nf);clear K6 RD Li Nf Ip;go_wp2_with rfl;refine qc Rk λw3 hx=>?_;have HI3:=I (HI.ext hx);have B4:=I (C7.trans hx);clear q0 q1;go_wp2
  go_loopg [6,7] pn (λgk tt kk wr=>∃(k:Nat) (u:ByteArray),e9 (gk+k=pn)/\tt=atr u/\kk=U k/\e9 (u=bs (Lib.join (K::(C.take k).map λc=>bJ c) [32]))/\e9 (u.size<=50+6*k)/\e9 (D4 w3 wr))
  ·exact⟨0,u0,I O,rfl,rfl,HU0,I (l8 Sb.o),I So⟩
  obtain⟨k,u,HK,rfl,rfl,HE,HS,HX⟩:=hrel;have Ry:=aE k;by_cases hlt:k<pn
  ·have IG:=SW k pn;obtain⟨lb,lo,rfl,Fo⟩:=(HI3.ext HX).at hlt;have hkC:k<Lp C:=by rw[HN.o];exact hlt
   have H:=In hkC;have⟨s,hs,TS⟩:=WB.o C[k] (cP _);have hJ:Lib.join (K::(C.take (k+1)).map λc=>bJ c) [32]=Lib.join (K::(C.take k).map λc=>bJ c) [32]++([32]++bJ (s:Int)):=by
    rw[MH,H,rN,<-TS];exact YM _ _ _
   rw[H,NE,TS]at Fo;have RS:=I (λ(w':J)=>ig (w:=w') s hs);have htl:=jJ (s:Int);have⟨tc,OC⟩:=j7 (bs (bJ (s:Int)));have hts:tc.size<=5:=by rw[OC,aX];exact htl
   have HU2:=I (show u++{ data:=#[32] }++tc=bs (Lib.join (K::(C.take (k+1)).map λc=>bJ c) [32])by
    rw[hJ,HE.o,OC];show bs _++bs [32]++bs _=_;rw[cI,cI,vl])
   have hus:=HS.o;have IN:=I (show(u++{ data:=#[32] }++tc).size<=50+6*(k+1)by
    rw[fv,fv];show u.size+1+tc.size<=_;omega)
   have Mh:¬9223372036854775807<u.size+1:=O;have KZ:¬9223372036854775807<u.size+1+tc.size:=O;simp only[<-OC]at RS;clear H TS OC hkC hJ htl hts hus;go_wp2_with rfl;refine qc (RS _) λw4 hx=>?_;have X4:=I (HX.trans hx);clear Fo;go_wp2_with rfl;refine dk ?_;exact⟨k+1,_,I (l8 HK.o),rfl,by go_num,HU2,IN,X4⟩
  have E':k=pn:=l8 HK.o;have aa:e9 (C.take k=C):=aP (by rw[HN.o];omega);rw[aa.o]at HE;have IG:¬(k:Int)<(pn:Int):=O;clear E';have qq0:=@cu;exact H3
def Ti(h:σ:=by
 have Hi:=I (ID.lit B6 9 w2 [[115,117,112,101,114,97,100,100,105,116,105,118,101]] 1 rfl #[atr ⟨#[115,117,112,101,114,97,100,100,105,116,105,118,101]⟩] rfl w2.heap.size rfl O);go_wp2_with (at_builtin;refine dt B6 Tryz.Gb rfl Jw FS rfl _ _ rfl W.heap.size (FB b1 m1 e1) L1 rfl (GL.ext ZL) _ 1 1 [[115,117,112,101,114,97,100,100,105,116,105,118,101]] rfl Hi.o (l8 HN1.o) (by have:=XA2.size;simp;omega) ?_;intro v6 w6 ho hg r';obtain⟨a6,n6,c6,rfl,Jy⟩:=ho.var;have Gp:=I ho;have Hg:=I (aj (XA2.trans ZL) hg (λj hj=>(GL.lt j hj).1));clear ho hg r');go_meet;exact⟨_,_,_,_,rfl,Gp,I j9,Hg⟩
 ):σ:=h
def LF(h:σ:=by
 have Hi:=I (ID.lit B6 9 w1 [[109,111,110,111,116,111,110,101]] 1 rfl #[atr ⟨#[109,111,110,111,116,111,110,101]⟩] rfl w1.heap.size rfl O);go_wp2_with (at_builtin;refine dt B6 Tryz.Gb rfl Jw FS rfl _ _ rfl W.heap.size (GT W.heap.size 0 0) [] rfl (FJ.ext ZL) _ 1 1 [[109,111,110,111,116,111,110,101]] rfl Hi.o j9 (by have:=XA1.size;simp;omega) ?_;intro v6 w6 ho hg r';obtain⟨a6,n6,c6,rfl,Jy⟩:=ho.var;have Gp:=I ho;have Hg:=I (aj (XA1.trans ZL) hg (λj hj=>(FJ.lt j hj).1));clear ho hg r');go_meet;exact⟨_,_,_,_,rfl,Gp,I j9,Hg⟩
 ):σ:=h
def Pr(h:σ:=by
 have Hi:=I (ID.lit B6 9 w3 [[99,111,110,118,101,120]] 1 rfl #[atr ⟨#[99,111,110,118,101,120]⟩] rfl w3.heap.size rfl O);go_wp2_with (at_builtin;refine dt B6 Tryz.Gb rfl Jw FS rfl _ _ rfl W.heap.size (FB b2 m2 e2) L2 rfl (F1.ext ZL) _ 1 1 [[99,111,110,118,101,120]] rfl Hi.o (l8 Jb.o) (by have:=XA3.size;simp;omega) ?_;intro v6 w6 ho hg r';obtain⟨a6,n6,c6,rfl,Jy⟩:=ho.var;have Gp:=I ho;have Hg:=I (aj (XA3.trans ZL) hg (λj hj=>(F1.lt j hj).1));clear ho hg r');go_meet;exact⟨_,_,_,_,rfl,Gp,I j9,Hg⟩
 ):σ:=h
def WC(h:σ:=by
 go_wp2;go_meet;exact⟨_,_,_,_,rfl,GL,I j9,XA2⟩
 ):σ:=h
def MO(h:σ:=by
 go_wp2;go_meet;exact⟨_,_,_,_,rfl,FJ,I j9,XA1⟩
 ):σ:=h
def XC(h:σ:=by
 go_wp2;go_meet;exact⟨_,_,_,_,rfl,F1,I j9,XA3⟩
 ):σ:=h
theorem tK(hV:d6 w a n cap V)(X:o3):f9 110 #[Id p a n cap] w (atr (bs (tl ⟨p,V,X⟩))):=by
 have⟨W,hW⟩:=j7 (w.alloc (SH #[U p,FB a n cap] 31));refine Fn (show D4 w W by rw[hW];exact ZL) (show W.cell? (IM w 0)=some (U p)by rw[hW];simp) (show W.cell? (IM w 1)=some (FB a n cap)by rw[hW];simp) λIg G0 G1=>?_;have HV:=I (hV.ext Ig);refine Fn (λ(w':J) (hx:D4 W w')=>CG (p:=p) (HV.ext hx)) (λ(w':J) (hx:D4 W w')=>G9 (p:=p) (HV.ext hx)) (λ(w':J) (hx:D4 W w')=>EJ (p:=p) (HV.ext hx)) λH1 H2 H3=>?_;have Q1:=show lZ ⟨p,V,X⟩=(if dg 1 p V=true then [[109,111,110,111,116,111,110,101]] else [])++((if dg 2 p V=true then [[115,117,112,101,114,97,100,100,105,116,105,118,101]] else [])++(if dg 3 p V=true then [[99,111,110,118,101,120]] else []))from rfl
 have hz:tl ⟨p,V,X⟩=if lZ ⟨p,V,X⟩=[] then [110,111,110,101] else Lib.join (lZ ⟨p,V,X⟩) [32]:=rfl
 generalize tl ⟨p,V,X⟩=Z at hz⊢;rw[Q1]at hz;have⟨k1,Ij⟩:=j7 (dg 1 p V);have⟨k2,r7⟩:=j7 (dg 2 p V);have⟨k3,Lm⟩:=j7 (dg 3 p V);simp only[<-Ij]at H1;simp only[<-r7]at H2;simp only[<-Lm]at H3;rw[<-Ij,<-r7,<-Lm]at hz;have HPZ:=I hz;clear Ij r7 Lm;unfold f9;go_in
 have⟨v0,MB⟩:=j7 (W.alloc (SH #[] 9));have B4:=I (show D4 W v0 by rw[MB];exact ZL);have Pt:=I (show A9 B6 9 v0 W (GT W 0 0) []by rw[MB];exact A9.Ft B6 9 W W _ rfl (m9 _));go_upto_region 1 with rfl;rw[<-hW];clear hW;go_upto_region 2 with rfl;rw[<-MB];clear MB;have g0:=B4.o9 G0.o;have g1:=B4.o9 G1.o
 go_upto_if 6 with(go_at_call 192;refine i6 (H1 _ B4) λw1 hx=>?_)
 have XA1:=I ((show D4 W _ from B4).trans hx);have FJ:=I (Pt.ext hx);go_cut [3] (λv G=>∃(K:o6) (H c4:Nat) (L:List (List UInt8)),v=FB K H c4/\e9 (A9 B6 9 G W (FB K H c4) L)/\e9 (L=[]++(if k1=true then [[109,111,110,111,116,111,110,101]] else []))/\e9 (D4 W G))
 case first =>
  cases k1 with
  | false =>
    exact MO
  | true =>
    exact LF
 obtain⟨b1,m1,e1,L1,rfl,N1,Vf,A6⟩:=hcut;have⟨v1,Lh⟩:=j7 wc;subst Lh;have HN1:=I (show Lp L1<=1 by rw[Vf.o,ar];split<;>simp);have g0:=A6.o9 G0.o;have g1:=A6.o9 G1.o;go_upto_if 11 with(go_at_call 193;refine i6 (H2 _ A6) λw2 hx=>?_)
 have XA2:=I ((show D4 W _ from A6).trans hx);have GL:=I (N1.ext hx);go_cut [3] (λv G=>∃(K:o6) (H c4:Nat) (L:List (List UInt8)),v=FB K H c4/\e9 (A9 B6 9 G W (FB K H c4) L)/\e9 (L=L1++(if k2=true then [[115,117,112,101,114,97,100,100,105,116,105,118,101]] else []))/\e9 (D4 W G))
 case first =>
  cases k2 with
  | false =>
    exact WC
  | true =>
    exact Ti
 obtain⟨b2,m2,e2,L2,rfl,HL2,Iu,C7⟩:=hcut;have⟨v2,OB⟩:=j7 wc;subst OB;have Jb:=I (show Lp L2<=2 by rw[Iu.o,ar];have:=HN1.o;split<;>simp<;>omega);have g0:=C7.o9 G0.o;have g1:=C7.o9 G1.o;go_upto_if 16 with(go_at_call 194;refine i6 (H3 _ C7) λw3 hx=>?_)
 have XA3:=I ((show D4 W _ from C7).trans hx);have F1:=I (HL2.ext hx);go_cut [3] (λv G=>∃(K:o6) (H c4:Nat) (L:List (List UInt8)),v=FB K H c4/\e9 (A9 B6 9 G W (FB K H c4) L)/\e9 (L=L2++(if k3=true then [[99,111,110,118,101,120]] else []))/\e9 (D4 W G))
 case first =>
  cases k3 with
  | false =>
    exact XC
  | true =>
    exact Pr
 obtain⟨b3,m3,e3,L3,rfl,Qz,QB,C5⟩:=hcut;have⟨v3,Vp⟩:=j7 wc;subst Vp;have NB:=I (show Lp L3<=3 by rw[QB.o,ar];have:=Jb.o;split<;>simp<;>omega);have g0:=C5.o9 G0.o;have g1:=C5.o9 G1.o;have Ip:=I (show Z=if L3=[] then [110,111,110,101] else Lib.join L3 [32]by
  have h:=HPZ.o;rw[<-vl,<-Nl (if k1=true then _ else _),<-Vf.o,<-Iu.o,<-QB.o]at h;exact h)
 have K6:=Qz.JG.hlen;have X1:=I (Ig.trans C5);by_cases h0:m3=0
 ·subst h0;have HR:=I (Ip.trans (by rw[i7 (Md K6)]));clear K6;have qq0:=@cu;exact Ur
 have hne:((m3:Int) == 0)=false:=t8;have HR:=I (show Z=Lib.join L3 [32]by rw[Ip.o,f8 (λe=>h0 (by rw[<-K6,e];rfl))]);have hm3:m3<=3:=l8 NB.o;have Vc:=I (yP Qz.o [32] O (by
  have:=lj (L:=L3) (m:=50) (λz hz=>by
   rw[QB.o,Iu.o,Vf.o]at hz;simp only[Nl,Pm,List.mem_ite_nil_right,Nu]at hz;rcases hz with(⟨_,rfl⟩|⟨_,rfl⟩)|⟨_,rfl⟩<;>decide)
  simp only[mg,D1];omega))
 have⟨tj,HTJ⟩:=Ok (bs (Lib.join L3 [32]));rw[<-HTJ.o]at Vc;clear K6;go_wp2_with rfl;refine i6 Vc λw5 hx=>?_;have X5:=I (X1.trans hx);go_wp2;go_ret;exact⟨cu (by rw[HTJ.o,HR.o]),X5⟩
end
section
variable{w:J}{p:Int}{a b:o6}{n cap m dap:Nat}{V:o7}{X:o3}{base:Nat}
theorem Xq(hV:d6 w a n cap V)(hX:i8 w b m dap X)(t:List UInt8)(hi:5<=WP t):f9 41 #[sess p a n cap b m dap,atr (bs t)] w (atr (bs (GZ ⟨p,V,X⟩ (WP t)).2)):=by
 have hl:=pM t;obtain⟨_,_,_,_,_,e5,e6,e7,e8⟩:=w9 t;generalize WP t=i at e5 e6 e7 e8 hi hl⊢;have⟨Z,Kp⟩:=Ok ((GZ ⟨p,V,X⟩ i).2);rw[<-Kp.o];generalize bs t=tt at e5 e6 e7 e8⊢;have⟨W,hW⟩:=j7 (w.alloc (SH #[U p,FB a n cap,FB b m dap] 34));have X1:=I (show D4 w W by rw[hW];exact ZL);have HB:=I (show C6 W w (U p) (FB a n cap) (FB b m dap)by rw[hW];exact LE rfl);have HV:=I (hV.ext X1);have HX:=I (hX.ext X1);have⟨c0,c1,c2,cf⟩:=C6.c HB.o;unfold f9;go_in
 go_upto_region 1 with rfl;rw[<-hW];clear hW;obtain rfl|rfl|rfl|rfl|rfl:i=5∨i=6∨i=7∨i=8∨i=9:=O
 all_goals simp only[Nat.reduceBEq]at e5 e6 e7 e8
 case' inl =>
  have H:=CK (p:=p) HV.o HX.o;rw[<-show Z=oE ⟨p,V,X⟩from Kp.o]at H
 case' inr.inl =>
  have H:=CO (p:=p) HV.o HX.o;rw[<-show Z=pD ⟨p,V,X⟩from Kp.o]at H
 case' inr.inr.inl =>
  have H:=tK (p:=p) HV.o X;rw[<-show Z=tl ⟨p,V,X⟩from Kp.o]at H
 case inr.inr.inr.inr =>
  have HR:e9 (Z=fM):=Kp;have qq0:=@cu;exact Ur
 case inr.inr.inr.inl =>
  have HR:=show Z=Lib.join (E0 10 (if ak p V=true then eh p.toNat V else [])) [59]from Kp
  have hf:=Ac (p:=p) HV.o;have LW:Lp (if ak p V=true then eh p.toNat V else [])<=2000:=by
   split
   ·exact xr _ _
   exact ef _
  have⟨G,hG⟩:=j7 (if ak p V=true then eh p.toNat V else []);rw[<-hG]at HR hf LW;refine Fn HR (λ(w':J)=>im (w:=w') G 10 O) LW λHZ2 HSB SY=>?_;have⟨tg,Q⟩:=j7 (bs G);rw[<-Q]at hf;simp only[<-Q]at HSB;have HF:=I hf;clear hG Q;go_wp2_with rfl;refine i6 HF λw1 hx=>?_;have A6:=I (X1.trans hx);go_wp2_with rfl;refine yf (HSB _) λw2 v ho hx=>?_;obtain⟨pa,pn,pc,rfl,HN⟩:=ho.var;have C7:=I (A6.trans hx);have Hn:Lp (Lib.join (E0 10 G) [59])<=2000:=by rw[xU (c:=59) (d:=10),oV];exact SY
  have HJ:=I (yP ho [59] (by have h1:=HN.o;have h2:=mi 10 G;have h3:=SY.o;omega) (by simp only[mg,D1];omega));rw[<-HZ2.o]at HJ;have⟨tj,K⟩:=Ok (bs Z);rw[<-K.o]at HJ;go_wp2_with rfl;refine i6 HJ λw3 hx=>?_;have C5:=I (C7.trans hx);go_wp2;go_ret;exact⟨cu K.o,C5⟩
 all_goals
  have⟨tj,O'⟩:=j7 (bs Z);have K:=I O';rw[<-O']at H;have Gc:=I H;clear O';go_wp2_with rfl;refine i6 Gc λw1 hx=>?_;have A6:=I (X1.trans hx);go_wp2;go_ret;exact⟨cu K.o,A6⟩
theorem CN(hV:d6 w a n cap V)(hX:i8 w b m dap X)(hn:n<=1048576)(hm:m<=1048576)(c v:List UInt8):Calls Tryz.prog 36 #[sess p a n cap b m dap,atr (bs c),atr (bs v)] w λe w'=>D7 w' w e (fC ⟨p,V,X⟩ c v)/\D4 w w':=by
 have⟨W,hW,HT,HV,HX,Ww,⟨c0,c1,c2,cf⟩,r0,r1,r2,rf⟩:=ml p hV hX;have Q4:=I (λ(w':J) (hx:D4 W w')=>io (p:=p) (HV.ext hx) (HX.ext hx) hn hm);have⟨Z,Kp⟩:=Ok (fC ⟨p,V,X⟩ c v);rw[<-Kp.o];refine ZH (λ(w':J) (hx:D4 w w')=>io (p:=p) (hV.ext hx) (hX.ext hx) hn hm) (rK (w:=W) c) (λ(w':J)=>nO (w:=w') v) (λh=>Kp.trans (qD (s:=⟨p,V,X⟩) (c:=c) (v:=v) h)) (λt x h1 h2=>Kp.trans (qE (s:=⟨p,V,X⟩) (c:=c) (v:=v) (t:=t) (x:=x) h1 h2)) (show∀s,KB c=some s->s<32 from λs h=>AK h) HV.hlen λVg Rj Mm Jn VK aec HVL=>?_;have⟨OA,hvm⟩:=HV.ath;have L9:=I hn;have⟨tc,OC⟩:=j7 (bs c);have⟨tv,htv⟩:=j7 (bs v);rw[<-OC]at Rj⊢;simp only[<-htv]at Mm;rw[<-htv];have⟨rc,NI⟩:=j7 (KB c);have⟨ri,hri⟩:=j7 (dm v);simp only[<-NI]at Rj Jn VK aec;simp only[<-hri]at Mm Jn VK;clear OC htv NI hri;go_in
 go_upto_region 1 with rfl;rw[<-hW];clear hW;obtain⟨ci,hci⟩:∃y:Int,y=((rc.getD 0:Nat):Int):=⟨_,rfl⟩;obtain⟨xi,K⟩:∃y:Int,y=ri.getD 0:=⟨_,rfl⟩;have⟨cb,WB⟩:=Ok rc.isSome;have⟨xb,Qv⟩:=Ok ri.isSome;rw[<-hci,<-WB.o]at Rj;simp only[<-K,<-Qv.o]at Mm;have HCI:=I hci;have HXI:=I K;clear hci K;go_wp2_with rfl;refine i6 Rj λw1 hx=>?_;have A6:=I hx;go_wp2_with rfl;refine i6 (Mm _) λw1b hx=>?_;have A6:=I (A6.trans hx);have⟨c0,c1,c2,cf⟩:=(HT.ext A6).s.c;have⟨r0,r1,r2,rf⟩:=(HT.ext A6).r.c;go_wp2_with rfl;refine(Q4 _ A6).mono ?_;rintro e w2 ⟨⟨a1,n1,k1,b1,m1,d1,rfl,ho⟩,hx⟩;refine Op (show C6 (w2.alloc (SH #[U p,FB a1 n1 k1,FB b1 m1 d1] 34)) w2 (U p) (FB a1 n1 k1) (FB b1 m1 d1)from LE rfl) ((A6.trans hx).trans (D4.alloc w2 (SH #[U p,FB a1 n1 k1,FB b1 m1 d1] 34))) ((ho.mono (HT.ext A6).x.size).ext (D4.alloc w2 (SH #[U p,FB a1 n1 k1,FB b1 m1 d1] 34))) (show w.heap.size+1<w2.heap.size from C' (IO (HT.ext A6).r) hx.size) λF1 C5 H Pu=>?_
 have⟨w3,Gn⟩:=j7 (w2.alloc (SH #[U p,FB a1 n1 k1,FB b1 m1 d1] 34));rw[<-Gn]at F1 C5 H;go_upto_region 4 with rfl;rw[<-Gn];clear Gn;generalize w2.heap.size=G at F1 Pu⊢;have GJ:=I (HT.ext C5);have⟨d0,d1',d2,df⟩:=C6.c F1.o;have⟨c0,c1,c2,cf⟩:=GJ.s.c;have⟨r0,r1,r2,rf⟩:=GJ.r.c;cases rc with
 | none =>
   have KS:=I (Jn (.inl rfl));obtain rfl:cb=false:=WB.o;have⟨z0,z1,z2,HZ,XZ⟩:=GJ.FP H.o (p);have qq0:=@TO;exact vC
 | some t =>
   obtain rfl:cb=true:=WB.o;obtain rfl:ci=(t:Int):=HCI.o;have ht32:=aec.o t rfl;cases ri with
   | none =>
     have KS:=I (Jn (.inr rfl));obtain rfl:xb=false:=Qv.o;have⟨z0,z1,z2,HZ,XZ⟩:=GJ.FP H.o (p);have qq0:=@TO;exact vC
   | some x =>
     obtain rfl:xb=true:=Qv.o;obtain rfl:xi=x:=HXI.o;have HY:=I (VK t xi rfl rfl);have hnw:IntKind.i64.wrap ((n:Int)-1)=(n:Int)-1:=by have:=L9.o;rw[j0];omega
     have⟨B,hB⟩:=j7 (A8 (t:Int) 1 ((n:Int)-1));have Jj:=I (λ(w':J)=>bj (t:Int) 1 ((n:Int)-1) w');simp only[<-hB]at Jj;have Qj:=I (show B=true->1<=t/\t<n by rw[hB];unfold A8;intro h;simp at h;omega);have HBF:=I (show B=false->¬(1<=t/\t<n)by rw[hB];unfold A8;intro h;simp at h;omega);clear hB;cases B with
     | false =>
       have KS:=I (HY.trans (f8 (λq=>HBF.o rfl ⟨q.1,by have:=q.2.1;rw[<-HVL.o];exact this⟩)));go_wp2_with rfl;refine(Jj _).mono ?_;rintro e w4 ⟨rfl,rfl⟩;have⟨z0,z1,z2,HZ,XZ⟩:=GJ.FP H.o (p);have qq0:=@TO;exact vC
     | true =>
       have⟨Qn,Y9⟩:=Qj.o rfl;have Ht:n1=n:=by rw[<-H.v.ints.hlen,HVL.o]
       subst Ht;obtain⟨gv,rfl,KF,ZA,LW⟩:=H.v.block Y9;have⟨hcv,Nx⟩:=H.v.ints.ath;have hft:=ZA t;have PL:=H.v.IJ.2.2.2 t Y9;have hgG:G≠gv:=λe=>by
        have:=F1.o;rw[e]at this;exact aq H.v this FS rfl
       have hB4:C6 (w3.setCell (IM gv t) (U xi)) G (U p) (GT gv n1 k1) (FB b1 m1 d1):=(If w3 (IM gv t) G _ hgG).trans F1.o;have⟨y0,y1,y2,yf⟩:=C6.c hB4;have⟨w5,Gz⟩:=j7 ((w3.setCell (IM gv t) (U xi)).setCell (IM G 2) d9);refine Fn (show C6 w5 G (U p) (GT gv n1 k1) d9 by rw[Gz];exact C6.Vk hB4 _) (show aG w5 w (some (IM gv 0)) n1 k1 none 0 0 (V.set t xi) []by rw[Gz];exact⟨bg (H.v.set t xi) hB4 FS,og⟩) (show D4 w w5 by rw[Gz];exact(GJ.x.store (b:=gv) t KF _).store (b:=G) 2 (l8 Pu.o) _) λFG Fj Hh=>?_
       have Lv:=I (show C6 w5 (w+1) (U 0) d9 (d9)by
        rw[Gz];have Rz:w.heap.size+1≠gv:=λe=>by
         have:=GJ.r;rw[e]at this;exact aq H.v this FS rfl
        exact(If _ _ _ _ (by have:=Pu.o;simp;omega)).trans ((If _ _ _ _ Rz).trans GJ.r))
       have Lt:=I (show C6 w5 w (U p) (FB a n1 cap) (FB b m dap)by
        rw[Gz];have Rz:w.heap.size≠gv:=λe=>by
         have:=GJ.s;rw[e]at this;exact aq H.v this FS rfl
        exact(If _ _ _ _ (by have:=Pu.o;simp;omega)).trans ((If _ _ _ _ Rz).trans GJ.s))
       have L7:e9 (b9 w w5 p a n1 cap b m dap):=I ⟨Hh,Lt,Lv⟩;have Sd:=I (bY (w:=w5) (p:=p) Fj.v.ints);have⟨ok,D9⟩:=j7 (ak p (V.set t xi));rw[<-D9]at Sd;have Rh:=I (show Z=if ok=true then(⟨p,V.set t xi,[]⟩,R6) else(⟨p,V,X⟩,PA)by
        rw[HY.o,D9];by_cases h:ak p (V.set t xi)=true
        ·rw[i7 ⟨Qn,by rw[HVL.o];omega,h⟩,i7 h]
        rw[f8 (λq=>h q.2.2),f8 h])
       go_wp2_with rfl;refine(Jj _).mono ?_;rintro e w4 ⟨rfl,rfl⟩;go_upto_region 8 with rfl;rw[<-Gz];clear Gz D9;have⟨d0,d1',d2,df⟩:=C6.c FG.o;go_wp2_with rfl;refine i6 Sd λw6 hx=>?_;refine Fn (L7.ext hx) (Fj.ext hx) (hx.blk FG) λU6 Gp Ke=>?_;have⟨d0,d1',d2,df⟩:=C6.c Ke.o;have⟨c0,c1,c2,cf⟩:=U6.s.c;cases ok with
       | false =>
         go_wp2_with rfl;refine(Vg _ U6.x).mono ?_;rintro e w7 ⟨⟨a7,n7,k7,b7,m7,d7,rfl,ho⟩,hx⟩;have Uk:=I (U6.ext hx);have Kb:=I (ho.mono U6.x.size);have⟨r0,r1,r2,rf⟩:=Uk.r.c;have⟨z0,z1,z2,HZ,XZ⟩:=Uk.FP Kb.o (p);have qq0:=@TO;exact Qg
       | true =>
         have⟨r0,r1,r2,rf⟩:=U6.r.c;have⟨z0,z1,z2,HZ,XZ⟩:=U6.FP Gp.o (p);have qq0:=@TO;exact Qg
theorem Ag(hV:d6 w a n cap V)(hX:i8 w b m dap X)(hn:n<=1048576)(hm:m<=1048576){la:o6}{H lc:Nat}{L:List (List UInt8)}(hl:ID B6 w la H lc L)(NK:∀x∈L,Lp x<=1048576)(hln:Lp L<=1048576):Calls Tryz.prog 37 #[sess p a n cap b m dap,FB la H lc] w λe w'=>D7 w' w e (gq ⟨p,V,X⟩ L)/\D4 w w':=by
 have⟨W,hW,HT,HV,HX,Ww,⟨c0,c1,c2,cf⟩,r0,r1,r2,rf⟩:=ml p hV hX;have Q4:=I (λ(w':J) (hx:D4 W w')=>io (p:=p) (HV.ext hx) (HX.ext hx) hn hm);have⟨Z,Kp⟩:=Ok (gq ⟨p,V,X⟩ L);rw[<-Kp.o];refine kv (show Z=(match Ow L with|none=>(⟨p,V,X⟩,PA)|some Y=>(⟨p,V,Y⟩,if Gf p V Y=true then [121,101,115] else [115,117,109]))from Kp) (hl.ext HT.x) (show Lp L=H from hl.hlen) NK (λ(w':J) (hx:D4 w w')=>hV.ext hx) λHSY JE HN1 OW HVW=>?_;have hnl:H<=1048576:=by rw[<-hl.hlen];exact hln
 have⟨Nk,Ng⟩:=hl.ath;go_in
 go_upto_region 1 with rfl;rw[<-hW];clear hW;go_wp2_with rfl;refine(Q4 _ So).mono ?_;rintro e w2 ⟨⟨a1,n1,k1,b1,m1,d1,rfl,ho⟩,hx⟩;refine Op (show C6 (w2.alloc (SH #[U p,FB a1 n1 k1,FB b1 m1 d1] 34)) w2 (U p) (FB a1 n1 k1) (FB b1 m1 d1)from LE rfl) (hx.trans (D4.alloc w2 (SH #[U p,FB a1 n1 k1,FB b1 m1 d1] 34))) ((ho.mono Ww).ext (D4.alloc w2 (SH #[U p,FB a1 n1 k1,FB b1 m1 d1] 34))) (show w.heap.size+1<w2.heap.size from C' (IO HT.r) hx.size) λF1 C5 C8 Pu=>?_;have⟨w3,Gn⟩:=j7 (w2.alloc (SH #[U p,FB a1 n1 k1,FB b1 m1 d1] 34));rw[<-Gn]at F1 C5 C8;go_upto_region 2 with rfl;rw[<-Gn];clear Gn;generalize w2.heap.size=G at F1 Pu⊢;have GU:=I (HT.ext C5);have⟨d0,d1',d2,df⟩:=C6.c F1.o;have⟨c0,c1,c2,cf⟩:=GU.s.c;have⟨r0,r1,r2,rf⟩:=GU.r.c;have HW:=I (show∀wr,D4 w3 wr->b9 w wr p a n cap b m dap/\aG wr w a1 n1 k1 b1 m1 d1 V X/\C6 wr G (U p) (FB a1 n1 k1) (FB b1 m1 d1)from λwr h=>⟨GU.ext h,C8.ext h,h.blk F1.o⟩);go_wp2
 go_loopg [7,8] H (λgk pp ii wr=>∃(k:Nat) (a4:o6) (n4 c4:Nat) (P:o3),e9 (gk+k=H)/\ii=U k/\pp=FB a4 n4 c4/\e9 (Nm (λk=>Mq (L[k]?.getD [])) k=some P)/\e9 (ZM wr w3 (FB a4 n4 c4) P)/\e9 (D4 w3 wr))
 ·exact⟨0,_,_,_,[],I O,rfl,rfl,I rfl,I (ZM.made _ _ (m9 _)),I ZL⟩
 obtain⟨k,a4,n4,c4,P,HK,rfl,rfl,L8,KT,IX⟩:=hrel;have Ry:=aE k;by_cases hlt:k<H
 ·obtain⟨lb,lo,x0,rfl,Mk,Fo⟩:=(JE.ext (C5.trans IX)).at hlt;have q0:wr.cell? (IM lb (lo+k))=some (atr (bs x0)):=by simpa[B6]using Fo 0 _ rfl
  have K:=I (CH (w:=wr) x0 (l8 (OW x0 (MV Mk))));have Tw:=I (show(λk=>Mq (L[k]?.getD [])) k=Mq x0 by simp only[Mk,NE]);generalize Mq x0=R at K Tw;generalize bs x0=t0 at q0 K;have IG:=SW k H
  cases R with
  | none =>
    have KS:=I (show Z=(⟨p,V,X⟩,PA)by
     rw[HSY.o,show Ow L=none from by unfold Ow;exact fB L8.o Tw.o (l8 HN1.o)])
    go_wp2_with rfl;refine i6 K λw4 E4=>?_;have Hh:=I ((IX.trans E4).trans (D4.alloc w4 (SH #[U 0,U 0] 80)));have⟨w5,Gz⟩:=j7 (w4.alloc (SH #[U 0,U 0] 80));rw[<-Gz]at Hh;go_upto_region 7 with rfl;rw[<-Gz];clear Gz;have⟨t5,o5,g5⟩:=HW.o _ Hh.o;have GJ:=I t5;have FM:=I o5;have⟨d0,d1',d2,df⟩:=C6.c g5;have⟨r0,r1,r2,rf⟩:=t5.r.c;have⟨z0,z1,z2,HZ,XZ⟩:=GJ.FP FM.o (p);have qq0:=@UE;exact vC
  | some xy =>
    obtain⟨x,y⟩:=xy;have HOA:=I (eg L8.o Tw);have Ka:=I (cZ L8);go_wp2_with rfl;refine i6 K λw4 E4=>?_;have FG:e9 (ai wr (w4.alloc (SH #[U x,U y] 80)) w4 x y):=ai.new E4 _ _;have⟨w5,Gz⟩:=j7 (w4.alloc (SH #[U x,U y] 80));rw[<-Gz]at FG;go_upto_region 7 with rfl;rw[<-Gz];clear Gz;have q0:=FG.c0;have q1:=FG.c1;have hsz:=(IX.trans FG.ext).size
    go_wp2_with (first
     | (at_builtin;refine cH rfl _ _ rfl w3 (FB a4 n4 c4) _ rfl ((KT.ext FG.ext).ext ZL) _ 1 _ [(x,y)] rfl (z6 j9) (l8 Ka.o) t8 ?_;intro v9 w9 ho It r';have XA:=I (aj ((IX.trans FG.ext).trans ZL) It (λj hj=>(KT.lt j hj).1));obtain⟨a9,n9,c9,rfl,Qe⟩:=ho.var;have HPA:=I ho))
    refine dk ?_;exact Q2
 have E':k=H:=l8 HK.o;have HPY:=I (show Ow L=some P by unfold Ow;rw[HN1.o,<-E'];exact L8);have KS:=I (show Z=(⟨p,V,P⟩,if Gf p V P=true then [121,101,115] else [115,117,109])by rw[HSY.o,HPY.o]);have IG:¬(k:Int)<(H:Int):=O;have⟨t5,o5,g5⟩:=HW.o _ IX.o;have⟨w6,IL⟩:=j7 (wr.setCell (IM G 2) (FB a4 n4 c4));have Ke:=I (show C6 w6 G (U p) (FB a1 n1 k1) (FB a4 n4 c4)by rw[IL];exact C6.Vk g5 _);have Gp:=I (show aG w6 w a1 n1 k1 a4 n4 c4 V P by rw[IL];exact aG.set2 (X:=P) ⟨o5.v,KT.mono GU.x.size⟩ g5 _)
 have U6:=I (show b9 w w6 p a n cap b m dap by
  rw[IL];have:=Pu.o;exact⟨t5.x.store 2 O _,(If _ _ _ _ t8).trans t5.s,(If _ _ _ _ t8).trans t5.r⟩)
 have⟨d0,d1',d2,df⟩:=C6.c g5;clear E';go_upto_region 11 with rfl;rw[<-IL];clear IL;have⟨c0,c1,c2,cf⟩:=U6.s.c;have HIP:=I (nN (p:=p) (HVW _ U6.x) Gp.x.rats);generalize Gf p V P=B at HIP KS;go_wp2_with rfl;refine i6 HIP λw7 hx=>?_;refine Fn (U6.ext hx) (Gp.ext hx) (hx.blk Ke) λUk Kb KX=>?_;have⟨d0,d1',d2,df⟩:=C6.c KX.o;have⟨r0,r1,r2,rf⟩:=Uk.r.c;cases B with
 | false =>
   have⟨z0,z1,z2,HZ,XZ⟩:=Uk.FP Kb.o (p);have qq0:=@UE;exact vC
 | true =>
   have⟨z0,z1,z2,HZ,XZ⟩:=Uk.FP Kb.o (p);have qq0:=@UE;exact vC
end
end
section
def nf(w:J):Prop:=∃m,w.cell? ⟨0,0,none⟩=some (U m)
def nf.ext{w w':J}(h:nf w)(hx:D4 w w'):nf w':=let⟨m,hm⟩:=h;⟨m,hx.o9 hm⟩
section
variable{w:J}{p:Int}{a b:o6}{n cap m dap:Nat}{V:o7}{X:o3}{base:Nat}
theorem zP (h : d6 w a n cap V) (ht : tIw w) :
 f9 76 #[Id p a n cap] w (atr (bs (if ak p V=true then eh p.toNat V else []))):=by
 cases D9:ak p V
 ·have X2:=I (D4.alloc w (SH #[U p,FB a n cap] 31));have HG:=I (bV (p:=p) (h.ext X2));rw[D9]at HG;unfold f9;go_in
  go_wp2_with rfl;refine i6 HG λw1 hx=>?_;exact Ni
 obtain⟨q,rfl,h1,h5,hlen,_,hb⟩:=ap D9;rw[i7 rfl,eI];exact xF h (λj=>by have:=du hb j;omega) ht
theorem aF (hO : aG w base a n cap b m dap V X) (hb : base <= w.heap.size) (htab : tIw w) (t : List UInt8) (h : WP t = 7) :
 Calls Tryz.prog 26 #[sess p a n cap b m dap,atr (bs t)] w λe w'=>D7 w' base e (GZ ⟨p,V,X⟩ 7)/\D4 w w':=by
 have⟨e0,e1,e2,e3,e4,e5,e6,e7,e8⟩:=w9 t;simp only[h,Nat.reduceBEq]at e0 e1 e2 e3 e4 e5 e6 e7 e8;generalize bs t=tt at e0 e1 e2 e3 e4 e5 e6 e7 e8⊢;have⟨W,hW,HT,HO,⟨c0,c1,c2,cf⟩,r0,r1,r2,rf⟩:=fY p hO;refine kv htab hb (λ(w':J) (hx:D4 W w')=>BQ (p:=p) (HO.v.ints.ext hx)) (λ(w':J) (hx:D4 W w')=>PI (p:=p) (HO.v.ints.ext hx)) (λ(w':J) (hx:D4 W w')=>DA (p:=p) (HO.v.ints.ext hx)) λHTB Kt H1 H2 H3=>?_;have Q1:=show lZ ⟨p,V,X⟩=(if dg 1 p V=true then [[109,111,110,111,116,111,110,101]] else [])++((if dg 2 p V=true then [[115,117,112,101,114,97,100,100,105,116,105,118,101]] else [])++(if dg 3 p V=true then [[99,111,110,118,101,120]] else []))from rfl
 have⟨k1,Ij⟩:=j7 (dg 1 p V);have⟨k2,r7⟩:=j7 (dg 2 p V);have⟨k3,Lm⟩:=j7 (dg 3 p V);simp only[<-Ij]at H1;simp only[<-r7]at H2;simp only[<-Lm]at H3;rw[<-Ij,<-r7,<-Lm]at Q1;have Q1:=I Q1;clear Ij r7 Lm;go_in
 go_upto_region 1 with rfl;rw[<-hW];clear hW;have⟨v0,MB⟩:=j7 (W.alloc (SH #[] 9));have B4:=I (show D4 W v0 by rw[MB];exact ZL);have Pt:=I (show A9 B6 9 v0 W (GT W 0 0) []by rw[MB];exact A9.Ft B6 9 W W _ rfl (m9 _));go_upto_region 35 with rfl;rw[<-MB];clear MB;have⟨c0,c1,c2,cf⟩:=(HT.ext B4).s.c
 go_upto_if 162 with(go_at_call 72;refine i6 (H1 _ B4) λw1 hx=>?_)
 have XA1:=I ((show D4 W _ from B4).trans hx);have FJ:=I (Pt.ext hx);go_cut [21] (λv wx=>∃(b4:o6) (m4 c4:Nat) (L:List (List UInt8)),v=FB b4 m4 c4/\e9 (A9 B6 9 wx W (FB b4 m4 c4) L)/\e9 (L=[]++(if k1=true then [[109,111,110,111,116,111,110,101]] else []))/\e9 (D4 W wx))
 case first =>
  cases k1 with
  | false =>
    exact MO
  | true =>
    exact LF
 obtain⟨b1,m1,e1,L1,rfl,N1,Vf,A6⟩:=hcut;have⟨v1,Lh⟩:=j7 wc;subst Lh;have HN1:=I (show Lp L1<=1 by rw[Vf.o,ar];split<;>simp);have⟨c0,c1,c2,cf⟩:=(HT.ext A6).s.c;go_upto_if 168 with(go_at_call 73;refine i6 (H2 _ A6) λw2 hx=>?_)
 have XA2:=I ((show D4 W _ from A6).trans hx);have GL:=I (N1.ext hx);go_cut [21] (λv wx=>∃(b4:o6) (m4 c4:Nat) (L:List (List UInt8)),v=FB b4 m4 c4/\e9 (A9 B6 9 wx W (FB b4 m4 c4) L)/\e9 (L=L1++(if k2=true then [[115,117,112,101,114,97,100,100,105,116,105,118,101]] else []))/\e9 (D4 W wx))
 case first =>
  cases k2 with
  | false =>
    exact WC
  | true =>
    exact Ti
 obtain⟨b2,m2,e2,L2,rfl,HL2,Iu,C7⟩:=hcut;have⟨v2,OB⟩:=j7 wc;subst OB;have Jb:=I (show Lp L2<=2 by rw[Iu.o,ar];have:=HN1.o;split<;>simp<;>omega);have⟨c0,c1,c2,cf⟩:=(HT.ext C7).s.c;go_upto_if 174 with(go_at_call 74;refine i6 (H3 _ C7) λw3 hx=>?_)
 have XA3:=I ((show D4 W _ from C7).trans hx);have F1:=I (HL2.ext hx);go_cut [21] (λv wx=>∃(b4:o6) (m4 c4:Nat) (L:List (List UInt8)),v=FB b4 m4 c4/\e9 (A9 B6 9 wx W (FB b4 m4 c4) L)/\e9 (L=L2++(if k3=true then [[99,111,110,118,101,120]] else []))/\e9 (D4 W wx))
 case first =>
  cases k3 with
  | false =>
    exact XC
  | true =>
    exact Pr
 obtain⟨b3,m3,e3,L3,rfl,Qz,QB,C5⟩:=hcut;have⟨v3,Vp⟩:=j7 wc;subst Vp;have NB:=I (show Lp L3<=3 by rw[QB.o,ar];have:=Jb.o;split<;>simp<;>omega);have⟨c0,c1,c2,cf⟩:=(HT.ext C5).s.c;have KS:=I (show GZ ⟨p,V,X⟩ 7=(⟨p,V,X⟩,if L3=[] then [110,111,110,101] else Lib.join L3 [32])by
  have h:=Q1.o;rw[<-vl,<-Nl (if k1=true then _ else _),<-Vf.o,<-Iu.o,<-QB.o]at h;show(_,if lZ ⟨p,V,X⟩=[] then _ else Lib.join (lZ ⟨p,V,X⟩) [32])=_;rw[h])
 have K6:=Qz.JG.hlen;refine Fn (HT.ext C5) (HO.ext C5) K6 λGJ FM Lw=>?_;by_cases h0:m3=0
 ·subst h0;have KS:=I (KS.trans (by rw[i7 (Md K6)]));clear K6;have⟨r0,r1,r2,rf⟩:=GJ.r.c;have⟨z0,z1,z2,HZ,XZ⟩:=GJ.FP FM.o (p);have qq0:=@gn;exact vC
 have hne:((m3:Int) == 0)=false:=t8;have OT:=I (show GZ ⟨p,V,X⟩ 7=(⟨p,V,X⟩,Lib.join L3 [32])by rw[KS.o,f8 (λe=>h0 (by rw[<-K6,e];rfl))]);have hm3:m3<=3:=l8 NB.o;have Vc:=I (λ(w':J) (hx:D4 v3 w')=>xI (Qz.ext hx) [32] O (by
  have:=lj (L:=L3) (m:=50) (λz hz=>by
   rw[QB.o,Iu.o,Vf.o]at hz;simp only[Nl,Pm,List.mem_ite_nil_right,Nu]at hz;rcases hz with(⟨_,rfl⟩|⟨_,rfl⟩)|⟨_,rfl⟩<;>decide)
  omega))
 have⟨tj,HTJ⟩:=Ok (bs (Lib.join L3 [32]));simp only[<-HTJ.o]at Vc;have hk:=D4.drew v3;clear K6;go_upto_region 43 with rfl;exact q'
end
end
section
variable{w:J}{s:St}
theorem OQ(h:nf w)(l:List UInt8)(hl:Lp l<=1048576):f9 75 #[atr (bs l),atr ⟨#[10]⟩,atr ⟨#[59]⟩] w (atr (bs (Lib.join (E0 10 l) [59]))):=by
 obtain⟨m,hm⟩:=h;have h1:(bs l).size=Lp l:=aX l;have hc:=Lib.countB_le ⟨#[10]⟩ FS _ (bs l) (m9 _);have H:=Any.strings_ReplaceAll OB Z4 (bs l) ⟨#[10]⟩ ⟨#[59]⟩ m w O hm FS (by show _+_*1<=_;omega);refine Calls.mono H ?_;rintro e w' ⟨rfl,hx⟩;refine⟨?_,hx⟩;rw[show(bs l).data.toList=l from ZS ..,<-XJ FS l];rfl
theorem YJ(h:nf w)(l:List UInt8)(hl:Lp l<=1048576){x y:List UInt8}{B:Bool}(hc:Lib.cut l [32]=(x,y,B)):f9 25 #[atr (bs l),atr ⟨#[32]⟩] w (.tuple #[atr (bs x),atr (bs y),ato B]):=by
 obtain⟨m,hm⟩:=h;have h1:(bs l).size=Lp l:=aX l;have H:=Any.strings_Cut Yz (bs l) ⟨#[32]⟩ m w O hm;refine Calls.mono H ?_;rintro e w' ⟨rfl,k,rfl⟩;refine⟨?_,y6 (D4.refl w) k⟩;rw[show(bs l).data.toList=l from ZS ..,show Lib.cut l (ByteArray.mk #[32]).data.toList=(x,y,B)from hc];rfl
def H'(t:List UInt8):Nat:=if t=K5 then 0 else if t=[118,97,108,117,101] then 1 else if t=[101,120,97,109,112,108,101] then 2 else if t=[112,97,121,111,102,102] then 3 else 4
theorem c4(t:List UInt8):((bs t).toList == [112,108,97,121,101,114,115])=(H' t == 0)/\((bs t).toList == [118,97,108,117,101])=(H' t == 1)/\((bs t).toList == [101,120,97,109,112,108,101])=(H' t == 2)/\((bs t).toList == [112,97,121,111,102,102])=(H' t == 3):=by
 rw[dd];unfold H' K5;have G:∀(x y:List UInt8),(x == y)=decide (x=y):=λx y=>by rw[uu];simp
 simp only[G];by_cases Z:t=[112,108,97,121,101,114,115]
 ·subst Z;decide
 rw[f8 Z];by_cases Q:t=[118,97,108,117,101]
 ·subst Q;decide
 rw[f8 Q];by_cases K:t=[101,120,97,109,112,108,101]
 ·subst K;decide
 rw[f8 K];by_cases H:t=[112,97,121,111,102,102]
 ·subst H;decide
 rw[f8 H];exact⟨RK Z,RK Q,RK K,RK H⟩
theorem Ay(t:List UInt8):H' t<=4:=by
 unfold H'
 repeat' split
 all_goals decide
def Vg(s:St)(r:List UInt8)(k:Nat):St×List UInt8 :=
 match k with
 | 0=>jU s (aH r 6)
 | 1=>ja s (E0 32 r)
 | 2=>jT s (aH r 6)
 | 3=>gq s (E0 32 r)
 | _=>(s,fM)
theorem pd{t:List UInt8}(h:(32:UInt8)∉t):cJ s t=Na s t:=by
 unfold cJ lT;rw[rQ h];exact i7 rfl
theorem vv{x r:List UInt8}(h:(32:UInt8)∉x):cJ s (x++32::r)=Vg s r (H' x):=by
 unfold cJ lT;have h1:=iD 32 r;rw[nY h,mg,f8 O,List.drop_one,List.tail_cons,oV];simp only[Up,OX,NE,Nat.add_right_cancel_iff];unfold H';by_cases Q:x=K5
 ·rw[i7 Q,i7 Q];rfl
 rw[f8 Q,f8 Q];by_cases K:x=[118,97,108,117,101]
 ·rw[i7 K,i7 K];show _=ja s (E0 32 r);unfold ja;by_cases Z:Lp (E0 32 r)=2
  ·rw[i7 O,i7 Z]
  rw[f8 O,f8 Z]
 rw[f8 K,f8 K];by_cases H:x=[101,120,97,109,112,108,101]
 ·rw[i7 H,i7 H];rfl
 rw[f8 H,f8 H];by_cases G:x=[112,97,121,111,102,102]
 ·rw[i7 G,i7 G];rfl
 rw[f8 G,f8 G];rfl
section
variable{w:J}{p:Int}{a b:o6}{n cap m dap:Nat}{V:o7}{X:o3}{base:Nat}
theorem b8 (hO : aG w base a n cap b m dap V X) (hb : base <= w.heap.size) (htab : tIw w) (t : List UInt8) (h : WP t = 8) (hml : nf w) :
 Calls prog 26 #[sess p a n cap b m dap,atr (bs t)] w λe w'=>D7 w' base e (GZ ⟨p,V,X⟩ 8)/\D4 w w':=by
 have⟨e0,e1,e2,e3,e4,e5,e6,e7,e8⟩:=w9 t;simp only[h,Nat.reduceBEq]at e0 e1 e2 e3 e4 e5 e6 e7 e8;generalize bs t=tt at e0 e1 e2 e3 e4 e5 e6 e7 e8⊢;have⟨W,hW,HT,HO,⟨c0,c1,c2,cf⟩,r0,r1,r2,rf⟩:=fY p hO;refine Fn htab hb (hml.ext HT.x) λHTB Kt HML=>?_;have Qg:=I (λ(w':J) (hx:D4 W w')=>zP (p:=p) (HO.v.ints.ext hx) (dP HTB.o (HT.x.trans hx)));have Ip:=show GZ ⟨p,V,X⟩ 8=(⟨p,V,X⟩,Lib.join (E0 10 (if ak p V=true then eh p.toNat V else [])) [59])from rfl
 have LW:Lp (if ak p V=true then eh p.toNat V else [])<=1048576:=by
  split
  ·exact bR (xr _ _) FS
  exact ef _
 have⟨G,hG⟩:=j7 (if ak p V=true then eh p.toNat V else []);simp only[<-hG]at Qg;rw[<-hG]at Ip LW;have HRA:=I (λ(w':J) (hx:D4 W w')=>OQ (HML.ext hx) G LW);have⟨tg,htg⟩:=j7 (bs G);have⟨ts,HTS⟩:=Ok (bs (Lib.join (E0 10 G) [59]));have Ip:=I Ip;simp only[<-htg]at Qg;simp only[<-htg,<-HTS.o]at HRA;clear hG htg;go_in
 go_upto_region 1 with rfl;rw[<-hW];clear hW;have hk:=D4.drew W;have⟨c0,c1,c2,cf⟩:=HT.s.c;go_upto_region 45 with rfl;refine k6 (S:=(λw'=>w'.cell? (IM w 0)=some (U p)/\w'.cell? (IM w 1)=some (FB a n cap)/\w'.cell? (IM w 2)=some (FB b m dap)/\D4 w w')) k8 ?_ (λr9=>?_)
 ·exact(HT.ext hk).keep
 refine ks ⟨?_⟩;refine rd 3 λK hK=>?_;go_simp
 (go_at_call 76;refine i6 (Qg _ hk) λw2 hx=>?_;have hk:=hk.trans hx)
 go_wp2_with rfl;refine KO ((HT.ext hk).keep) λr9=>?_;refine rd 4 λK hK=>?_;go_simp
 (go_at_call 75;refine i6 (HRA _ hk) λw3 hx=>?_;have hk:=hk.trans hx)
 go_wp2_with rfl;refine KO ((HT.ext hk).keep) λr9=>?_;have Nz:=I (HT.ext hk);have Tt:=I (HO.ext hk);have⟨r0,r1,r2,rf⟩:=Nz.r.c;have⟨z0,z1,z2,HZ,XZ⟩:=Nz.FP Tt.o p;refine rd 5 λK hK=>?_;go_simp;refine KO (iW Nz.o XZ) λr9=>?_;refine tk 6 ?_;refine ST k8 ?_ _;go_wp2;refine GE YZ rfl ⟨D7.of Ip.o HTS.o HZ.o,XZ⟩
theorem Pn (hO : aG w base a n cap b m dap V X) (hb : base <= w.heap.size) (htab : tIw w) (hml : nf w) (t : List UInt8) :
 Calls prog 26 #[sess p a n cap b m dap,atr (bs t)] w λe w'=>D7 w' base e (Na ⟨p,V,X⟩ t)/\D4 w w':=by
 have hi:=pM t;unfold Na;have⟨k,hk⟩:=j7 (WP t);rw[<-hk]at hi⊢;have h:=hk.symm;clear hk;obtain rfl|rfl|rfl|rfl|rfl|rfl|rfl|rfl|rfl|rfl:k=0∨k=1∨k=2∨k=3∨k=4∨k=5∨k=6∨k=7∨k=8∨k=9:=O
 ·exact XT hO hb htab t h
 ·exact cT hO hb htab t h
 ·exact cd hO hb htab t h
 ·exact Zl hO hb htab t h
 ·exact cS hO hb htab t h
 ·exact aS hO hb htab t h
 ·exact b6 hO hb htab t h
 ·exact aF hO hb htab t h
 ·exact b8 hO hb htab t h hml
 exact aT hO hb htab t h
theorem b9.sess{w W:J}(h:b9 w W p a n cap b m dap)(Z Q:o6)(H G K GH:Nat):b9 w (Gx W w (U p) (FB Z H G) (FB Q K GH)) p Z H G Q K GH :=
 ⟨h.x.Gx (m9 _) _ _ _,h.s.put _ _ _,(If _ _ _ _ j9).trans ((If _ _ _ _ j9).trans ((If _ _ _ _ j9).trans h.r))⟩
theorem ix (hV : d6 w a n cap V) (hX : i8 w b m dap X) (hn : n <= 1048576) (hm : m <= 1048576) (htab : tIw w) (hml : nf w) (t : List UInt8) (ht : Lp t <= 1048576) :
 Calls prog 11 #[sess p a n cap b m dap,atr (bs t)] w λe w'=>D7 w' w e (cJ ⟨p,V,X⟩ t)/\D4 w w':=by
 have T:=WV w p a n cap b m dap;have⟨W,hW⟩:=j7 ((w.alloc (SH #[U p,FB a n cap,FB b m dap] 34)).alloc (SH #[U 0,d9,d9] 34));rw[<-hW]at T;refine y5 T (At (w:=W) (p:=p) (hV.ext T.x) (hX.ext T.x) hn hm) htab hml (show Lp V<=1048576 by rw[hV.hlen];exact hn) (show Lp X<=1048576 by rw[hX.hlen];exact hm) λHT HCL HTB HML HVL HXL=>?_;have⟨Z,Kp⟩:=Ok (cJ ⟨p,V,X⟩ t);rw[<-Kp.o];have Qw:=I ht;have⟨tt,Pq⟩:=Ok (bs t);rw[<-Pq.o];have⟨c0,c1,c2,cf⟩:=T.s.c;clear T hV hX hn hm htab hml ht;go_in
 go_upto_region 1 with rfl;rw [<- hW];clear hW;go_wp2_with rfl;refine HCL.out.mono ?_;rintro e w1 ⟨⟨a1, n1, k1, b1, m1, d1, rfl, ho⟩, hx⟩;obtain ⟨w2, hw2⟩ : ∃ y, y = ((w1.setCell ⟨w.heap.size, 0, none⟩ (U p)).setCell ⟨w.heap.size, 1, none⟩ (FB a1 n1 k1)).setCell ⟨w.heap.size, 2, none⟩ (FB b1 m1 d1) := ⟨_, rfl⟩;have HT1 := I (show b9 w w2 p a1 n1 k1 b1 m1 d1 by rw [hw2]; exact (HT.out.ext hx).sess a1 b1 n1 k1 m1 d1);have HO1 := I (show aG w2 w.heap.size a1 n1 k1 b1 m1 d1 V X by rw [hw2]; exact (ho.mono HT.out.x.size).put (HT.out.ext hx).s _ _ _);clear c0 c1 c2 cf;obtain ⟨c0, c1, c2, cf⟩ := (HT.out.ext hx).s.c;go_upto_region 2 with rfl;rw [<- hw2];clear hw2 hx ho c0 c1 c2 cf;obtain ⟨c0, c1, c2, cf⟩ := HT1.out.s.c;have HN1 := I (show n1 <= 1048576 by rw [<- HO1.out.v.ints.hlen]; exact HVL.out);have HM1 := I (show m1 <= 1048576 by rw [<- HO1.out.x.rats.hlen]; exact HXL.out);have HW := I (fun (w' : J) (hx : D4 w2 w') => (⟨HO1.out.ext hx, (HT1.out.x.trans hx).size, dP HTB.out (HT1.out.x.trans hx), HML.out.ext (HT1.out.x.trans hx)⟩ : aG w' w.heap.size a1 n1 k1 b1 m1 d1 V X /\ w.heap.size <= w'.heap.size /\ tIw w' /\ nf w'));by_cases h32 : (32 : UInt8) ∈ t
 ·obtain⟨x,r,rfl,afN⟩:=iE h32;have HCU:=I (λ(w':J) (hx:D4 w2 w')=>YJ (HW w' hx).2.2.2 (x++32::r) Qw.o (W' afN));have HZM:=I (Kp.trans (vv afN));have Nf:Lp r<=1048576:=by have:=Qw.o;simp at this;omega
  have GN:=I Nf;have⟨e0,e1,e2,e3⟩:=c4 x;have hi:=Ay x;generalize H' x=i at e0 e1 e2 e3 HZM hi;have⟨u1,LP⟩:=j7 (bs x);have⟨u2,HU2⟩:=Ok (bs r);rw[<-LP]at e0 e1 e2 e3;simp only[<-LP,<-HU2.o,<-Pq.o]at HCU;clear LP h32 Nf afN;obtain rfl|rfl|rfl|rfl|rfl:i=0∨i=1∨i=2∨i=3∨i=4:=O
  all_goals simp only[Nat.reduceBEq]at e0 e1 e2 e3
  case pos.inr.inr.inr.inr =>
   have KS:e9 (Z=(⟨p,V,X⟩,fM)):=HZM;go_wp2_with rfl;refine qc (HCU _ So) λw3 hx=>?_;have GJ:=I (HT1.ext hx);have FM:=I (HO1.ext hx);clear c0 c1 c2 cf;have⟨c0,c1,c2,cf⟩:=GJ.s.c;have⟨r0,r1,r2,rf⟩:=GJ.r.c;have⟨z0,z1,z2,HZ,XZ⟩:=GJ.FP FM.o (p);have qq0:=@sa;exact vC
  case' pos.inl =>
   have Gc:=I (λ(w':J) (hx:D4 w2 w')=>let⟨ho,hb,_⟩:=HW.o w' hx;xR (p:=p) ho hb r);have⟨R,hR⟩:=j7 (jU ⟨p,V,X⟩ (aH r 6))
  case' pos.inr.inl =>
   have Gc:=I (λ(w':J) (hx:D4 w2 w')=>let⟨ho,hb,_⟩:=HW.o w' hx;BW (p:=p) ho hb HN1.o HM1.o r GN);have⟨R,hR⟩:=j7 (ja ⟨p,V,X⟩ (E0 32 r))
  case' pos.inr.inr.inl =>
   have Gc:=I (λ(w':J) (hx:D4 w2 w')=>let⟨ho,hb,_⟩:=HW.o w' hx;xQ (p:=p) ho hb r);have⟨R,hR⟩:=j7 (jT ⟨p,V,X⟩ (aH r 6))
  case' pos.inr.inr.inr.inl =>
   have Gc:=I (λ(w':J) (hx:D4 w2 w')=>let⟨ho,hb,htb,_⟩:=HW.o w' hx;zT (p:=p) ho hb r GN.o htb);have⟨R,hR⟩:=j7 (gq ⟨p,V,X⟩ (E0 32 r))
  all_goals
   have Lu:=I (HZM.trans (Eq.trans l7 hR.symm));simp only[<-hR,<-HU2.o]at Gc;clear hR;go_wp2_with rfl;refine qc (HCU _ So) λw3 C5=>?_;have GJ:=I (HT1.ext C5);clear c0 c1 c2 cf;have⟨c0,c1,c2,cf⟩:=GJ.s.c;have⟨r0,r1,r2,rf⟩:=GJ.r.c;go_wp2_with rfl;refine(Gc _ C5).mono ?_;rintro e w9 ⟨⟨a',n',k',b',m',d',rfl,ho⟩,hx⟩;have Hq:=I (GJ.ext hx);have Il:=I ho;have qq0:=@sa;exact Rs
 have HCU:=I (λ(w':J) (hx:D4 w2 w')=>YJ (HW w' hx).2.2.2 t Qw.o (LQ h32));have Gc:=I (λ(w':J) (hx:D4 w2 w')=>let⟨ho,hb,htb,hml⟩:=HW.o w' hx;Pn (p:=p) ho hb htb hml t);have⟨R,hR⟩:=j7 (Na ⟨p,V,X⟩ t);have Lu:=I (Kp.trans ((pd h32).trans hR.symm));simp only[<-Pq.o]at HCU;simp only[<-hR,<-Pq.o]at Gc;clear hR h32;go_wp2_with rfl;refine qc (HCU _ So) λw3 hx=>?_;have C5:=I hx;have GJ:=I (HT1.ext hx);clear c0 c1 c2 cf;have⟨c0,c1,c2,cf⟩:=GJ.s.c;have⟨r0,r1,r2,rf⟩:=GJ.r.c;go_wp2_with rfl;refine(Gc _ C5).mono ?_;rintro e w9 ⟨⟨a',n',k',b',m',d',rfl,ho⟩,hx⟩;have Hq:=I (GJ.ext hx);have Il:=I ho;have qq0:=@sa;exact Rs
end
def Bd(s:St):Prop:=Lp s.V<=1048576/\Lp s.X<=1048576
theorem nX{P:o3}{ok:Bool}(h:Bd s)(G:ok=true->Lp P<=5):Bd (dR s P ok).1:=by
 unfold dR;split
 ·next e=>exact⟨h.1,bR (G e) FS⟩
 exact h
theorem Ww(t:List UInt8)(h:Bd s):Bd (Na s t).1:=by
 have hi:=pM t;unfold Na;generalize WP t=k at hi;obtain rfl|rfl|rfl|rfl|rfl|rfl|rfl|rfl|rfl|rfl:k=0∨k=1∨k=2∨k=3∨k=4∨k=5∨k=6∨k=7∨k=8∨k=9:=O
 ·exact nX h λ_=>pr _ _
 ·exact nX h λ_=>oC _ _
 ·exact nX h λe=>rx _ _ e
 ·exact nX h λ_=>(ux _ _).1
 ·show Bd (if iP s=1 then(⟨s.p,s.V,jQ s⟩:St) else s);split
  ·next e=>exact⟨h.1,bR (te e) FS⟩
  exact h
 all_goals exact h
theorem AB{t:List UInt8}(h:Bd s)(H:Lp t<=1048576):Bd (cJ s t).1:=by
 by_cases G:(32:UInt8)∈t
 ·obtain⟨x,r,rfl,hx⟩:=iE G;rw[vv hx];have hr:Lp r+1<=1048576:=by simp at H;omega
  have hi:=Ay x;generalize H' x=k at hi;obtain rfl|rfl|rfl|rfl|rfl:k=0∨k=1∨k=2∨k=3∨k=4:=O
  ·show Bd (jU s (aH r 6)).1;unfold jU jF;split
   ·split
    ·next hk=>exact⟨by rw[yl];exact bR (bp _ O).2 FS,ef _⟩
    exact h
   exact h
  ·show Bd (ja s (E0 32 r)).1;unfold ja fC;split
   ·split
    ·split
     ·exact⟨by rw[km];exact h.1,ef _⟩
     exact h
    exact h
   exact h
  ·show Bd (jT s (aH r 6)).1;unfold jT;split
   ·rw[zh];split
    ·next hk =>
     have hd:=nR hk;obtain⟨j,Z⟩:∃j:Nat,aH r 6=j:=⟨(aH r 6).toNat,by omega⟩;rw[Z]at hd⊢;obtain⟨q,_,_,h5,K,_⟩:=ap (Ao ⟨j,by omega⟩ (by show 1<=j;omega));exact⟨by rw[K];exact bR (bp q h5).2 FS,ef _⟩
    exact h
   exact h
  ·show Bd (gq s (E0 32 r)).1;unfold gq;split
   ·exact h
   next Y hY =>
   have h1:=mi 32 r;unfold Ow at hY;have h2:=cZ hY;exact⟨h.1,by show Lp Y<=_;omega⟩
  exact h
 rw[pd G];exact Ww t h
theorem A9.Gx{base r:Nat}{v x y z:atY}{l:List (List UInt8)}(h:A9 B6 9 w base v l)(hb:C6 w r x y z)(x' y' z':atY):A9 B6 9 (Gx w r x' y' z') base v l:=by
 have G:=aM w r 0 _ _ x' hb;have H:=aM _ r 1 _ _ y' G;exact bg (bg (bg h hb FS) G FS) H FS
end
section
variable{D:Int}
theorem ID.alg{l:List (List UInt8)}(h:Lp l=0)(w:J)(a:o6):ID B6 w a 0 0 l:=⟨h,m9 _,by omega,λk G=>absurd G O⟩
theorem ID.agI{w:J}{b o n cap:Nat}{l:List (List UInt8)}(h:ID B6 w (some (IM b o)) n cap l)(hn:1<=n):ID B6 w (some (IM b (o+1))) (n-1) (cap-1) (l.drop 1):=by
 have hc:=h.y7;obtain⟨m,rfl⟩:∃m,n=m+1:=⟨n-1,by omega⟩;obtain⟨c,rfl⟩:∃c,cap=c+1:=⟨cap-1,by omega⟩;exact h.drop1
section
variable{s:St}{t:List UInt8}{L:List (List UInt8)}{n1:Nat}
theorem zn(H:L=E0 32 t)(hn:Lp L=n1){D:Int}(K:D=aH (Lib.join (L.drop 1) [32]) 6)(h:(decide (n1=2)&&(decide (0<=D)&&(H' (L[0]?.getD []) == 0)))=true):cJ s t=jF s D:=by
 simp only[cM,cq,Zf]at h;obtain⟨h2,G,hi⟩:=h;have hx:L[0]?.getD []=K5:=by
  unfold H' at hi;split at hi
  ·assumption
  split at hi<;>(try split at hi)<;>(try split at hi)<;>cases hi
 unfold cJ;rw[<-H];unfold lT;rw[f8 O,i7 hx,<-K,i7 G]
def nB(h:σ:=by
 unfold H' at hi
 repeat' split at hi
 all_goals first|assumption|cases hi
 ):σ:=h
theorem Th(H:L=E0 32 t)(hn:Lp L=n1){D:Int}(K:D=aH (Lib.join (L.drop 1) [32]) 6)(h:(decide (n1=2)&&(decide (0<=D)&&(H' (L[0]?.getD []) == 2)))=true):cJ s t=kB s D:=by
 simp only[cM,cq,Zf]at h;obtain⟨h2,G,hi⟩:=h;have hx:L[0]?.getD []=[101,120,97,109,112,108,101]:=by
  exact nB
 unfold cJ;rw[<-H];unfold lT;rw[f8 O,f8 H4,f8 H4,i7 hx,<-K,i7 G]
theorem MG(G:L=E0 32 t)(hn:Lp L=n1)(h:(decide (n1=3)&&(H' (L[0]?.getD []) == 1))=true):cJ s t=fC s (L[1]?.getD []) (L[2]?.getD []):=by
 simp only[cM,cq,Zf]at h;obtain⟨h2,hi⟩:=h;have hx:L[0]?.getD []=[118,97,108,117,101]:=by
  exact nB
 unfold cJ;rw[<-G];unfold lT;rw[f8 O,f8 H4,i7 hx,i7 O]
theorem Ml(G:L=E0 32 t)(hn:Lp L=n1)(h:(decide (1<n1)&&(H' (L[0]?.getD []) == 3))=true):cJ s t=gq s (L.drop 1):=by
 simp only[cM,cq,Zf]at h;obtain⟨h2,hi⟩:=h;have hx:L[0]?.getD []=[112,97,121,111,102,102]:=by
  exact nB
 unfold cJ;rw[<-G];unfold lT;rw[f8 O,f8 H4,f8 H4,f8 H4,i7 hx]
theorem dv(hL:L=E0 32 t)(hn:Lp L=n1){D:Int}(H:D=aH (Lib.join (L.drop 1) [32]) 6)(ha:(decide (n1=2)&&(decide (0<=D)&&(H' (L[0]?.getD []) == 0)))=false)(hb:(decide (n1=2)&&(decide (0<=D)&&(H' (L[0]?.getD []) == 2)))=false)(hc:(decide (n1=3)&&(H' (L[0]?.getD []) == 1))=false)(hd:(decide (1<n1)&&(H' (L[0]?.getD []) == 3))=false):cJ s t=Na s t:=by
 by_cases G:(32:UInt8)∈t
 ·have h9:Na s t=(s,fM):=by unfold Na;rw[BX G];rfl
  have hp:1<n1:=by
   obtain⟨x,r,rfl,hx⟩:=iE G;have:=iD 32 r;rw[<-hn,hL,nY hx,mg];omega
  have hdr:Lp (L.drop 1)=n1-1:=by rw[C3,hn]
  rw[h9];unfold cJ;rw[<-hL];unfold lT;unfold H' at ha hb hc hd;rw[f8 O];by_cases Q:L[0]?.getD []=K5
  ·rw[i7 Q,<-H];split
   ·next Pe =>
    rw[H]at Pe;have K:=AH Pe;rw[H,i7 Q,bl Pe,bl (show n1=2 by omega)]at ha;cases ha
   rfl
  rw[f8 Q];by_cases K:L[0]?.getD []=[118,97,108,117,101]
  ·rw[i7 K,f8 (λh3=>by
    rw[f8 Q,i7 K,bl (show n1=3 by omega)]at hc
    cases hc)]
  rw[f8 K];by_cases Z:L[0]?.getD []=[101,120,97,109,112,108,101]
  ·rw[i7 Z,<-H];split
   ·next Pe =>
    rw[H]at Pe;have h3:=AH Pe;rw[H,f8 Q,f8 K,i7 Z,bl Pe,bl (show n1=2 by omega)]at hb;cases hb
   rfl
  rw[f8 Z,f8 (λh3=>by
   rw[f8 Q,f8 K,f8 Z,i7 h3,bl hp]at hd
   cases hd)]
 exact pd G
end
section
variable{w:J}{p:Int}{a b:o6}{n cap m dap:Nat}{V:o7}{X:o3}{base:Nat}
def SJ(h:σ:=by
 by_cases h2:n1=2
 ·have hb:((n1:Int) == 2)=true:=by simp;omega
  cases ok
  all_goals
   go_wp2;go_meet;exact⟨by simp[h2],I rfl⟩
 ·have hb:((n1:Int) == 2)=false:=by simp;omega
  go_wp2;go_meet;exact⟨by simp[h2],I rfl⟩
 ):σ:=h
def Uz(h:σ:=by
 go_wp2_with rfl;refine HE.mono ?_;rintro e w2 ⟨rfl,C9⟩;go_wp2_with rfl;refine(M0 _).mono ?_;rintro e w3 ⟨rfl,C0⟩;have C5:=I (C9.trans C0);clear C9 C0;go_wp2;go_meet;exact⟨rfl,rfl,C5⟩
 ):σ:=h
theorem ow(hV:d6 w a n cap V)(hX:i8 w b m dap X)(hn:n<=1048576)(hm:m<=1048576)(t:List UInt8)(ht:Lp t<=1048576):Calls Tryz.prog 13 #[sess p a n cap b m dap,atr (bs t)] w λe w'=>D7 w' w e (cJ ⟨p,V,X⟩ t)/\D4 w w':=by
 have⟨W,hW,HT,HV,HX,Ww,⟨c0,c1,c2,cf⟩,r0,r1,r2,rf⟩:=ml p hV hX;have Q4:=I (λ(w':J) (hx:D4 W w')=>io (p:=p) (HV.ext hx) (HX.ext hx) hn hm);have⟨Z,hZ⟩:=j7 (cJ ⟨p,V,X⟩ t);rw[<-hZ];refine kv hZ (λ(w':J) (hx:D4 w w')=>(⟨hV.ext hx,hX.ext hx⟩:d6 w' a n cap V/\i8 w' b m dap X)) hn hm (im (w:=W) t 32 O) λKp Jj L9 MQ Gc=>?_;have NK:∀x∈E0 32 t,Lp x<=1048576:=λx hx=>bR (lu hx) ht
 have Qs:=iD 32 t;have hln:=mi 32 t;have Hn:Lp (Lib.join ((E0 32 t).drop 1) [32])<=1048576:=by
  have h1:=oV 32 t;cases hs:E0 32 t with
  | nil=>exact ef _
  | cons x r =>
    rw[hs,Mt]at h1;show(Lib.join r [32]).length<=_;cases r with
    | nil=>exact ef _
    | cons y q =>
      rw[Mt];unfold Lib.joinTail at h1⊢;have h2:=IR List.length h1;simp only[Zp,aB,ar,mg,D1]at h2⊢;omega
 have⟨L,Gq⟩:=Ok (E0 32 t);rw[<-Gq.o]at Gc NK Qs hln Hn;have OW:=I NK;have Qw:=I ht;have J6:=w9 t;have HID:=I (pM t);have⟨tt,Pq⟩:=Ok (bs t);rw[<-Pq.o]at Gc J6⊢;have HW9:=I J6;clear NK ht J6;clear hV hX hn hm hZ;go_in
 go_upto_region 1 with rfl;rw[<-hW];clear hW;go_wp2_with rfl;refine yf Gc λw1 v ho hx=>?_;obtain⟨a1,n1,k1,rfl,HN1⟩:=ho.var;have Ht:Lp L=n1:=HN1.o;have JE:=I ho.JG;have⟨Nk,Ng⟩:=JE.ath;have A6:=I hx;have HOW:=I ho;have OD:1<=n1:=O
 have Lw:=I (show Lp L<=1048577 by have:=Qw.o;omega);have SX:=I Hn;obtain⟨lb,lo,x0,rfl,Mk,Fo⟩:=JE.at (k:=0) O;refine Op (show w1.cell? (IM lb lo)=some (atr (bs x0))by simpa[B6]using Fo 0 _ rfl) (show L[0]?.getD []=x0 by rw[Mk];rfl) (JE.agI OD) (show w.heap.size+1<lb from C' (IO HT.r) (HOW.lt lb rfl).1) λHQ0 B4 HD1 Hj=>?_;have⟨D,hD⟩:=j7 (aH (Lib.join (L.drop 1) [32]) 6);refine Fn hD (λ(sa:o6) (sn sc:Nat) (h:ID B6 w1 sa sn sc (L.drop 1))=>uG h [32] (by have:=h.hlen;rw[C3]at this;have:=Lw.o;omega) (by have:=SX.o;simp only[mg,D1];omega)) (λ(w':J)=>wP (w:=w') (Lib.join (L.drop 1) [32])) λMb Vc M0=>?_;have⟨tj,HTJ⟩:=Ok (bs (Lib.join (L.drop 1) [32]));simp only[<-HTJ.o]at Vc;simp only[<-HTJ.o,<-hD]at M0;have⟨d8,HD8⟩:=Ok (if 0<=D then D else 0);have⟨ok,Ho⟩:=Ok (decide (0<=D));simp only[<-HD8.o,<-Ho.o]at M0;clear hx ho Hn Qs hln Fo Mk hD c0 c1 c2 cf r0 r1 r2 rf;go_upto_region 3 with rfl
 go_cut [8,9] (λv8 v9 wx=>v8=U d8/\v9=ato ok/\e9 (D4 w1 wx))
 case first =>
  by_cases Ij:k1=1
  ·obtain rfl:n1=1:=by omega
   subst Ij;have HE:=I (Vc (some (IM lb lo)) 0 0 (ID.alg (by rw[C3,Ht]) _ _));exact Uz
  have hkf:(k1=1)=False:=eq_false Ij;have HE:=I (Vc (some (IM lb (lo+1))) (n1-1) (k1-1) HD1);clear Ij;exact Uz
 obtain⟨rfl,rfl,LF⟩:=hcut;have⟨v1,Lh⟩:=j7 wc;subst Lh;have JT:=I (A6.trans LF);have Ls:=I (HT.ext JT);have q0:=LF.o9 HQ0.o;have⟨c0,c1,c2,cf⟩:=Ls.s.c;have⟨r0,r1,r2,rf⟩:=Ls.r.c;have⟨e0,e1,e2,e3⟩:=c4 x0;have⟨i,hi⟩:=j7 (H' x0);have⟨u0,Li⟩:=j7 (bs x0);rw[<-hi,<-Li]at e0 e1 e2 e3;rw[<-Li]at q0;have HI:=I (show H' (L[0]?.getD [])=i by rw[B4.o,hi]);clear hi Li;go_upto_region 4 with rfl
 go_cut [21] (λv wx=>v=ato (decide (n1=2)&&(ok&&(i == 0)))/\e9 (v1=wx))
 case first =>
  exact SJ
 obtain⟨rfl,U5⟩:=hcut;have H:=U5.o;subst H;clear U5;have⟨A,hA⟩:=j7 ((decide (n1=2)&&(ok&&(i == 0))));rw[<-hA];have HA:=I (show(decide (n1=2)&&(decide (0<=D)&&(H' (L[0]?.getD []) == 0)))=A by rw[HI.o,<-Ho.o,hA]);clear hA;cases A with
 | true =>
   have hd:0<=D:=by have h:=HA.o;simp only[cM,cq]at h;exact h.2.1
   obtain rfl:d8=D:=by rw[HD8.o,i7 hd]
   have⟨hv,hx⟩:=Jj.o _ Ls.x;have Gc:=I (yZ (p:=p) hv hx L9.o MQ.o d8);have⟨R,G⟩:=j7 (jF ⟨p,V,X⟩ d8);rw[<-G]at Gc;have Lu:=I (Kp.trans ((zn Gq.o HN1.o Mb.o HA).trans G.symm));clear G hd hv hx q0;go_wp2_with rfl;refine Gc.mono ?_;rintro e w9 ⟨⟨a',n',k',b',m',d',rfl,ho⟩,hx⟩;have Hq:=I (Ls.ext hx);have Il:=I (ho.mono Ls.x.size);have qq0:=@Vt;exact Rs
 | false =>
   go_upto_region 6 with rfl
   go_cut [38] (λv wx=>v=ato (decide (n1=2)&&(ok&&(i == 2)))/\e9 (v1=wx))
   case first =>
    exact SJ
   obtain⟨rfl,U5⟩:=hcut;have H:=U5.o;subst H;clear U5;have⟨A,hA⟩:=j7 ((decide (n1=2)&&(ok&&(i == 2))));rw[<-hA];have HB:=I (show(decide (n1=2)&&(decide (0<=D)&&(H' (L[0]?.getD []) == 2)))=A by rw[HI.o,<-Ho.o,hA]);clear hA;cases A with
   | true =>
     have hd:0<=D:=by have h:=HB.o;simp only[cM,cq]at h;exact h.2.1
     obtain rfl:d8=D:=by rw[HD8.o,i7 hd]
     have⟨hv,hx⟩:=Jj.o _ Ls.x;have Gc:=I (yY (p:=p) hv hx L9.o MQ.o d8);have⟨R,G⟩:=j7 (kB ⟨p,V,X⟩ d8);rw[<-G]at Gc;have Lu:=I (Kp.trans ((Th Gq.o HN1.o Mb.o HB).trans G.symm));clear G hd hv hx q0;go_wp2_with rfl;refine Gc.mono ?_;rintro e w9 ⟨⟨a',n',k',b',m',d',rfl,ho⟩,hx⟩;have Hq:=I (Ls.ext hx);have Il:=I (ho.mono Ls.x.size);have qq0:=@Vt;exact Rs
   | false =>
     go_upto_region 8 with rfl
     go_cut [55] (λv wx=>v=ato (decide (n1=3)&&(i == 1))/\e9 (v1=wx))
     case first =>
      by_cases h2:n1=3
      ·have hb:((n1:Int) == 3)=true:=by simp;omega
       go_wp2;go_meet;exact⟨by simp[h2],I rfl⟩
      have hb:((n1:Int) == 3)=false:=t8;go_wp2;go_meet;exact⟨by simp[h2],I rfl⟩
     obtain⟨rfl,U5⟩:=hcut;have H:=U5.o;subst H;clear U5;have⟨A,hA⟩:=j7 ((decide (n1=3)&&(i == 1)));rw[<-hA];have HC:=I (show(decide (n1=3)&&(H' (L[0]?.getD []) == 1))=A by rw[HI.o,hA]);clear hA;cases A with
     | true =>
       have h3:n1=3:=by have h:=HC.o;simp only[cM,cq]at h;exact h.1
       subst h3;have⟨lb',lo',x1,e',ZQ,FQ⟩:=JE.at (k:=1) O;obtain⟨rfl,rfl⟩:=er e';clear e';have⟨lb',lo',x2,e',hL2,IH⟩:=JE.at (k:=2) O;obtain⟨rfl,rfl⟩:=er e';clear e';have q1:=LF.o9 (show w1.cell? (IM lb (lo+1))=some (atr (bs x1))by simpa[B6]using FQ 0 _ rfl);have q2:=LF.o9 (show w1.cell? (IM lb (lo+2))=some (atr (bs x2))by simpa[B6]using IH 0 _ rfl);have HL12:e9 (L[1]?.getD []=x1/\L[2]?.getD []=x2):=I ⟨by rw[ZQ];rfl,by rw[hL2];rfl⟩;have Gc:=I (λ(w':J) (hx:D4 v1 w')=>CN (p:=p) (Jj w' (Ls.ext hx).x).1 (Jj w' (Ls.ext hx).x).2 L9.o MQ.o x1 x2);have⟨R,G⟩:=j7 (fC ⟨p,V,X⟩ x1 x2);simp only[<-G]at Gc;have Lu:=I (Kp.trans ((show cJ ⟨p,V,X⟩ t=fC ⟨p,V,X⟩ x1 x2 by rw[MG Gq.o HN1.o HC.o,HL12.1,HL12.2]).trans G.symm));have⟨tr,Kr⟩:=Ok (bs R.2);have⟨rp,NW⟩:=Ok R.1.p;clear G;have⟨t1,Qn⟩:=j7 (bs x1);have⟨t2,ht2⟩:=j7 (bs x2);simp only[<-Qn,<-ht2]at Gc;rw[<-Qn]at q1;rw[<-ht2]at q2;clear ZQ hL2 FQ IH Qn ht2 q0 c0 c1 c2 cf r0 r1 r2 rf;have Us:=I (λ(w':J) (hk:D4 v1 w')=>(⟨hk.o9 q1,hk.o9 q2,(Ls.ext hk).keep⟩:w'.cell? (IM lb (lo+1))=some (atr t1)/\w'.cell? (IM lb (lo+2))=some (atr t2)/\w'.cell? (IM w 0)=some (U p)/\w'.cell? (IM w 1)=some (FB a n cap)/\w'.cell? (IM w 2)=some (FB b m dap)/\D4 w w'));have hk:=D4.drew v1;clear q1 q2;go_upto_region 9 with rfl;refine kp Us hk λr9=>?_
       refine ks ⟨?_⟩;refine Mp ⟨?_⟩;refine rd 7 λK hK=>?_;go_simp
       (go_at_call 36;refine(Gc _ hk).mono ?_;rintro e w9 ⟨⟨a',n',k',b',m',d',rfl,ho⟩,hx⟩;rw[<-Kr.o,<-NW.o];have Il:=I (ho.mono (Ls.ext hk).x.size);have hk:=hk.trans hx;have Hq:=I (Ls.ext hk);clear ho hx)
       go_wp2_with rfl;refine KO (Us _ hk) λr9=>?_;have⟨r0,r1,r2,rf⟩:=Hq.r.c;have⟨z0,z1,z2,HZ,XZ⟩:=Hq.FP Il.o rp;refine tk 8 ?_;refine tk 9 ?_;refine rd 10 λK hK=>?_;go_simp;refine hK.out _ _ ?_ (λr9=>?_)
       ·exact⟨(Tz (l8 Hj.o) _ _ _ _).trans ((Us _ hk).1),(Tz (l8 Hj.o) _ _ _ _).trans ((Us _ hk).2.1),iW Hq.o XZ.o⟩
       clear hK K
       try simp only[Act.put,sA,sB,sC]
       refine tk 11 ?_;refine ST k8 ?_ _;go_wp2;refine GE Wy rfl ⟨D7.re Lu.o NW.o Kr.o HZ.o,XZ⟩
     | false =>
       go_upto_region 10 with rfl
       go_cut [74] (λv wx=>v=ato (decide (1<n1)&&(i == 3))/\e9 (v1=wx))
       case first =>
        by_cases h2:1<n1
        ·have hb:=SW 1 n1;go_wp2;go_meet;exact⟨by simp[h2],I rfl⟩
        have hb:¬(1:Int)<(n1:Int):=O;go_wp2;go_meet;exact⟨by simp[h2],I rfl⟩
       obtain⟨rfl,U5⟩:=hcut;have H:=U5.o;subst H;clear U5;have⟨A,hA⟩:=j7 ((decide (1<n1)&&(i == 3)));rw[<-hA];have HD:=I (show(decide (1<n1)&&(H' (L[0]?.getD []) == 3))=A by rw[HI.o,hA]);clear hA;cases A with
       | true =>
         have h3:1<n1:=by have h:=HD.o;simp only[cM,cq]at h;exact h.1
         have hkf:(k1=1)=False:=eq_false O;have hpi:(1:Int)<=(n1:Int):=O;have Gc:=I (λ(w':J) (hx:D4 v1 w')=>Ag (p:=p) (Jj w' (Ls.ext hx).x).1 (Jj w' (Ls.ext hx).x).2 L9.o MQ.o (HD1.ext (LF.trans hx)) (λx hx=>OW.o x (List.mem_of_mem_drop hx)) (by rw[C3];have:=Lw.o;omega));have⟨R,G⟩:=j7 (gq ⟨p,V,X⟩ (L.drop 1));simp only[<-G]at Gc;have Lu:=I (Kp.trans ((Ml Gq.o HN1.o HD).trans G.symm));have⟨tr,G5⟩:=j7 (bs R.2);have⟨rp,I5⟩:=j7 R.1.p;have Kr:=I G5;have NW:=I I5;clear G G5 I5;clear q0 c0 c1 c2 cf r0 r1 r2 rf;have hk:=D4.drew v1;go_upto_region 11 with rfl;refine k6 (S:=(λw'=>w'.cell? (IM w 0)=some (U p)/\w'.cell? (IM w 1)=some (FB a n cap)/\w'.cell? (IM w 2)=some (FB b m dap)/\D4 w w')) k8 ?_ (λr9=>?_)
         ·exact(Ls.ext hk).keep
         refine ks ⟨?_⟩;refine rd 3 λK hK=>?_;go_simp
         (go_at_call 37;refine(Gc _ hk).mono ?_;rintro e w9 ⟨⟨a',n',k',b',m',d',rfl,ho⟩,hx⟩;rw[<-Kr.o,<-NW.o];have Il:=I (ho.mono (Ls.ext hk).x.size);have hk:=hk.trans hx;have Hq:=I (Ls.ext hk);clear ho hx)
         go_wp2_with rfl;refine KO ((Ls.ext hk).keep) λr9=>?_;have⟨r0,r1,r2,rf⟩:=Hq.r.c;have⟨z0,z1,z2,HZ,XZ⟩:=Hq.FP Il.o rp;refine tk 4 ?_;refine tk 5 ?_;refine rd 6 λK hK=>?_;go_simp;refine KO (iW Hq.o XZ) λr9=>?_;refine tk 7 ?_;refine ST k8 ?_ _;go_wp2;refine GE Wy rfl ⟨D7.re Lu.o NW.o Kr.o HZ.o,XZ⟩
       | false =>
         have Rh:=I (Kp.trans (dv Gq.o HN1.o Mb.o HA.o HB.o HC.o HD));clear q0 e0 e1 e2 e3;obtain⟨f0,f1,f2,f3,f4,_⟩:=HW9.o;have⟨j,HJ⟩:=Ok (WP t);rw[<-HJ.o]at f0 f1 f2 f3 f4;have hj9:j<=9:=by rw[HJ.o];exact HID
         go_upto_region 12 with rfl
         go_cut [89] (λv wx=>v=ato (decide (j<=3))/\e9 (v1=wx))
         case first =>
          obtain rfl|rfl|rfl|rfl|⟨h4,g0,g1,g2,g3⟩:j=0∨j=1∨j=2∨j=3∨(3<j/\(j == 0)=false/\(j == 1)=false/\(j == 2)=false/\(j == 3)=false):=by
           by_cases h:3<j
           ·refine .inr (.inr (.inr (.inr ⟨h,?_,?_,?_,?_⟩)))<;>simp<;>omega
           omega
          case' inr.inr.inr.inr =>
           rw[g0]at f0;rw[g1]at f1;rw[g2]at f2;rw[g3]at f3;have hh:¬j<=3:=O;go_wp2;go_meet;exact⟨by rw[RK hh],I rfl⟩
          all_goals
           simp only[Nat.reduceBEq]at f0 f1 f2 f3;go_wp2;go_meet;exact⟨rfl,I rfl⟩
         obtain⟨rfl,U5⟩:=hcut;have H:=U5.o;subst H;clear U5 f0 f1 f2 f3;by_cases h3:j<=3
         ·rw[bl h3];have⟨hv,hx⟩:=Jj.o _ Ls.x;have Gc:=I (CM (p:=p) hv hx L9.o MQ.o t (by rw[<-HJ.o];exact h3));have⟨R,G⟩:=j7 (GZ ⟨p,V,X⟩ (WP t));rw[<-G,<-Pq.o]at Gc;have Lu:=I (Rh.trans G.symm);clear G hv hx h3 f4;go_wp2_with rfl;refine Gc.mono ?_;rintro e w9 ⟨⟨a',n',k',b',m',d',rfl,ho⟩,hx⟩;have Hq:=I (Ls.ext hx);have Il:=I (ho.mono Ls.x.size);have qq0:=@Vt;exact Rs
         rw[RK h3];by_cases h4:j=4
         ·subst h4;rw[show((4:Nat) == 4)=true from rfl]at f4;have⟨hv,hx⟩:=Jj.o _ Ls.x;have Gc:=I (EU (p:=p) hv hx L9.o MQ);have⟨R,G⟩:=j7 (GZ ⟨p,V,X⟩ 4);rw[<-G]at Gc;have Lu:=I (Rh.trans (show Na ⟨p,V,X⟩ t=R by unfold Na;rw[<-HJ.o,G]));clear G hv hx h3;go_wp2_with rfl;refine Gc.mono ?_;rintro e w9 ⟨⟨a',n',k',b',m',d',rfl,ho⟩,hx⟩;have Hq:=I (Ls.ext hx);have Il:=I (ho.mono Ls.x.size);have qq0:=@Vt;exact Rs
         rw[show(j == 4)=false by simp[h4]]at f4;have Q4:=I (λ(w':J) (hx:D4 v1 w')=>io (p:=p) (Jj w' (Ls.ext hx).x).1 (Jj w' (Ls.ext hx).x).2 L9.o MQ);have HAK:=I (λ(w':J) (hx:D4 v1 w')=>Xq (p:=p) (Jj w' (Ls.ext hx).x).1 (Jj w' (Ls.ext hx).x).2 t (by rw[<-HJ.o];omega));have h1:Na ⟨p,V,X⟩ t=(⟨p,V,X⟩,(GZ ⟨p,V,X⟩ (WP t)).2):=by
          unfold Na;rw[<-HJ.o];obtain rfl|rfl|rfl|rfl|rfl:j=5∨j=6∨j=7∨j=8∨j=9:=O
          all_goals rfl
         have⟨Y,hY⟩:=j7 ((GZ ⟨p,V,X⟩ (WP t)).2);rw[<-hY]at h1;have Lu:=I (Rh.trans h1);have⟨tr,G5⟩:=j7 (bs Y);simp only[<-hY,<-G5,<-Pq.o]at HAK;have Kr:=I G5;clear hY G5 h1 h3 h4 c0 c1 c2 cf r0 r1 r2 rf;have hk:=D4.drew v1;have⟨c0,c1,c2,cf⟩:=Ls.s.c;go_upto_region 16 with rfl;refine k6 (S:=(λw'=>w'.cell? (IM w 0)=some (U p)/\w'.cell? (IM w 1)=some (FB a n cap)/\w'.cell? (IM w 2)=some (FB b m dap)/\D4 w w')) k8 ?_ (λr9=>?_)
         ·exact(Ls.ext hk).keep
         refine tk 0 ?_;refine tk 2 ?_;refine tk 3 ?_;refine rd 1 λK hK=>?_;go_simp
         (go_at_call 40;refine(Q4 _ hk).mono ?_;rintro e w9 ⟨⟨a',n',k',b',m',d',rfl,ho⟩,hx⟩;have Il:=I (ho.mono (Ls.ext hk).x.size);have hk:=hk.trans hx;clear ho hx)
         go_wp2_with rfl;refine KO ((Ls.ext hk).keep) λr9=>?_;refine rd 4 λK hK=>?_;go_simp
         (go_at_call 41;refine qc (HAK _ hk) λwa hx=>?_;have Il:=I (Il.ext hx);have hk:=hk.trans hx)
         go_wp2_with rfl;refine KO ((Ls.ext hk).keep) λr9=>?_;have Hq:=I (Ls.ext hk);have⟨r0,r1,r2,rf⟩:=Hq.r.c;have⟨z0,z1,z2,HZ,XZ⟩:=Hq.FP Il.o p;refine rd 5 λK hK=>?_;go_simp;refine KO (iW Hq.o XZ) λr9=>?_;refine tk 6 ?_;refine ST k8 ?_ _;go_wp2;refine GE Wy rfl ⟨D7.of Lu.o Kr.o HZ.o,XZ⟩
end
