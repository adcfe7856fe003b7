import Derived.Test.YtdadoignenffgaaGreatDoorEbAllG51
import Derived.Test.YtdadoignenffgaaGreatDoorEbAllG2
import Derived.StillTailTactics
import Derived.Test.YtdadoignenffgaaGreatDoorEbAllG10
set_option linter.unusedVariables false
set_option linter.unusedSimpArgs false
namespace Go.Proofs.YtdadoignenffgaaGreatDoor
variable{w:World}{a:j6}{n c:Nat}
set_option maxHeartbeats 16000000
set_option maxRecDepth 100000
open Go.RowKit
def TN(P:Program)(w:World)(fid:FuncId)(ca:Array Value)(Q:j7->Prop)(p:j7->Bool):Prop :=
 ∀(l:j7) (a:j6) (n c:Nat) (w1:World),Ext w w1->Ints w1 a n c l->Q l->Calls P fid (#[.slice a n c]++ca) w1 fun e w2=>e=.returned (.bool (p l))/\Ext w1 w2
theorem nm{cap:Nat}{L:j5}{G:FuncId}{ca:Array Value}{Q:j7->Prop}{p:j7->Bool}(h:cH w a n cap L)(hg:IsGo Tryz.prog G)(hf:TN Tryz.prog w G ca Q p)(I:∀k,k<n->Q (L[k]?.getD [])):
 Calls Tryz.prog 134 #[.slice a n cap,.func (.func G) #[] ca] w fun e w'=>e=.returned (.int .i64 (cl p L))/\Ext w w':=by
 have hn:=h.l8;have hm:=h.l9;have HQ:=ae I;clear I;have OI:∀(args:Array Value) (w:World),(callFunc G args).run Tryz.prog w=.ok (.enter G args) w:=hg;go_enter Tryz.func134,Tryz.ntmps134
 go_wp2
 go_loopw [8] (fun i wr=>∃k:Nat,k<=n/\i=.int .i64 k/\b7 ((L.take k).all (fun x=>!p x)=true)/\Ext w wr) (fun i _=>n-(intOf i).toNat)
 case atStart=>exact⟨0,KJ _,rfl,ae rfl,Ext.refl _⟩
 case round =>
  obtain⟨k,hk,rfl,HA,hx⟩:=hrel;by_cases hlt:k<n
  ·obtain⟨b,off,O,J,K,rfl,hc,hr⟩:=(h.ext hx).at hlt;have HL:=ae h.hlen;have HF:=ae (hf (L[k]?.getD []) O J K wr hx hr (HQ.o k hlt));clear hr;by_cases hb:p (L[k]?.getD [])=true
   ·have HB:=ae hb;go_wp2_with fail;refine HF.o.mono ?_;rintro e w2 ⟨rfl,zJ⟩
    go_wp2
    go_ret;exact⟨ap (eQ (j1 HL.o) HA.o HB.o).symm,hx.trans (by assumption)⟩
   ·have HB:=ae hb;simp only[abo]at hb;go_wp2_with fail;refine HF.o.mono ?_;rintro e w2 ⟨rfl,zJ⟩
    go_wp2
    go_roundw
    case rel=>exact⟨k+1,by omega,by go_num,ae (by rw[eF (j1 HL.o),RN,HA.o];simpa using HB.o),hx.trans (by assumption)⟩
    case measure=>simp[intOf];omega
  ·have HL:=ae h.hlen
   go_wp2
   go_ret;refine⟨ap ?_,hx⟩;have:=HA.o;rw[p4 (j1 HL.o)]at this;exact(dP this).symm
theorem xM{bc cap:Nat}{l:j7}(hb:w.cell? ⟨bc,0,none⟩=some (.int .i64 (c:Int)))(h:Ints w a n cap l)(hc:c<n):
 Calls Tryz.prog 135 #[.slice a n cap,.pointer (some ⟨bc,0,none⟩)] w fun e w'=>e=.returned (.bool (l[c]?.getD 0 != 0))/\w=w':=by
 obtain⟨b,off,rfl,hcc⟩:=h.at hc;have l9:=h.l9;have l8:=h.l8;clear h;go_enter Tryz.func135,Tryz.ntmps135
 go_wp2
 go_ret;exact⟨rfl,rfl⟩
theorem wi:IsGo Tryz.prog 135:=isGo Tryz.func135 e9 e9
theorem rI{bc:Nat}(hb:w.cell? ⟨bc,0,none⟩=some (.int .i64 (c:Int)))(hc:c<n):
 TN Tryz.prog w 135 #[.pointer (some ⟨bc,0,none⟩)] (fun l=>l.length=n) (fun r=>r[c]?.getD 0 != 0):=by
 intro l a m cp w1 hx hi hq;have hm:m=n:=by rw[<-hi.hlen];exact hq
 exact(xM (hx.j9 hb) hi e7).mono fun e w2 ⟨he,hw⟩=>⟨he,hw▸Ext.refl _⟩
theorem Re{M:j5}{d:Nat}(hd:d<=M.length):cl (fun r:j7=>r[c]?.getD 0 != 0) (M.drop d)=if AH M c d<M.length then((AH M c d-d:Nat):Int) else -1:=by
 unfold cl AH;cases hf:(M.drop d).findIdx? (fun r=>r[c]?.getD 0 != 0)with
 | none=>simp
 | some k =>
   rw[aag]at hf;obtain⟨h1,_⟩:=hf;rw[aaj]at h1;simp only;rw[hI e7]
   congr 1
   omega
theorem O6{B:Int}:∀(l:j7) (g:Int),0<=g->g<=B->(∀x∈l,-B<=x/\x<=B)->0<=l.foldl gI g/\l.foldl gI g<=B
 | [],g,h0,h1,_=>⟨h0,h1⟩
 | x::l,g,h0,h1,h=>by
   have hx:=h x e8;have h2:gI g x<=B:=by
    by_cases hz:x=0
    ·subst hz;rw[pF];omega
    ·have:=La g hz;omega
   exact O6 l (gI g x) (qr g x) h2 fun y hy=>h y (by simp[hy])
theorem Pk(n:Nat)(s:Int){b:Bool}(h:BC s (n:Int)=b):BN n s++[zA b]=BN (n+1) s:=by rw[<-h];exact ql n s
theorem NP{n:Int}{m cap:Nat}{l:j7}(h:Ints w a m cap l)(hl:∀k:Nat,l[k]?.getD 0<=9223372036854775807)(hm:m<=1048576):
 Calls Tryz.prog 79 #[.int .i64 n,.slice a m cap] w fun e w'=>e=.returned (.int .i64 (fp n l))/\Ext w w':=by
 have OK:=h.l8;have OL:=h.l9;have HL:=ae h.hlen;have HI:=ae h;have AO:=ae hl;clear h hl;cases zU:r9 n 1 5
 ·have HN:=ae (show fp n l=0 by unfold fp;rw[zU];rfl);have HW:=ae (aq n 1 5 w);rw[zU]at HW;clear zU;go_enter Tryz.func79,Tryz.ntmps79
  go_wp2_with fail;refine HW.o.mono ?_;rintro e w1 ⟨rfl,rfl⟩;go_wp2_with fail;go_ret;exact⟨ap HN.o.symm,Ext.refl _⟩
 ·obtain⟨J,rfl⟩:∃k:Nat,n=k:=⟨n.toNat,by simp only[r9,xf,sw]at zU;omega⟩;have h15:1<=J/\J<=5:=by simp only[r9,xf,sw]at zU;omega
  obtain⟨h1,h5⟩:=h15;have HN:=ae (show fp (J:Int) l=((runM bZ (l.map (BN J)) J).2:Int)by unfold fp;rw[hI zU];rfl);have HW:=ae (aq J 1 5 w);rw[zU]at HW;have HO:=ae (zC.Az w w.heap.size _ rfl (ao _));clear zU;go_enter Tryz.func79,Tryz.ntmps79
  go_wp2_with fail;refine HW.o.mono ?_;rintro e w1 ⟨rfl,rfl⟩;go_wp2_with fail
  go_loopg [5,27] m (fun gk out i wr=>∃(k G O p1:Nat) (vs:List Value),b7 (gk+k=m)/\i=.int .i64 (k:Int)/\out=.slice (some ⟨G,0,none⟩) O p1/\b7 (zC wr w.heap.size (.slice (some ⟨G,0,none⟩) O p1) vs)/\b7 (bL wr w.heap.size vs ((l.take k).map (BN J)))/\b7 (Ext w wr)/\b7 (w.heap.size<=G))
  case atStart=>exact⟨0,_,_,_,[],ae e7,rfl,rfl,HO,ae (bL.nil _ _),ae (Ext.alloc _ _),ae (ao _)⟩
  case round =>
   obtain⟨g1,o7⟩:=b9 gk;subst o7;obtain⟨o6,o5⟩:=b9 wr;subst o5;obtain⟨k,G,O,p1,vs,HK,rfl,rfl,HV,HR,HX,HGW⟩:=hrel;have hsz:=HX.o.size;by_cases hlt:k<m
   ·obtain⟨b,off,ha,DR⟩:=(HI.o.ext HX.o).at hlt;subst ha;obtain⟨s,hs⟩:=b9 (l[k]?.getD 0);rw[<-hs]at DR;have HS:=ae hs;have Ec:s<=9223372036854775807:=by rw[hs];exact AO.o k
    have As:=ae (o4.Az o6 o6.heap.size _ rfl (ao _));have I9:=ae (show vs.length=k by rw[HR.o.len,zo,FX];have:=HL.o;omega);clear hs;go_wp2_with fail
    go_loopg [8,33] J (fun gk row i wr=>∃(j:Nat) (a2:j6) (n2 p2:Nat),b7 (gk+j=J)/\i=.int .i64 (j:Int)/\row=.slice a2 n2 p2/\b7 (o4 wr o6.heap.size (.slice a2 n2 p2) (BN j s))/\b7 (Ext o6 wr))
    case atStart=>exact⟨0,_,_,_,ae e7,rfl,rfl,As,ae (Ext.alloc _ _)⟩
    case round =>
     obtain⟨g2,Am⟩:=b9 gk;subst Am;obtain⟨wr2,zx⟩:=b9 wr;subst zx;obtain⟨j,a2,n2,p2,HJ,rfl,rfl,zi,zk⟩:=hrel;have Fs:=zk.o.size;by_cases Eo:j<J
     ·have Sn:=ae (ke j s);have Sr:=ae (fP s (j:Int) wr2 Ec);cases Mm:BC s (j:Int)
      all_goals
       rw[Mm]at Sr;have Xh:=ae (Pk j s Mm);clear Mm;go_wp2_with fail;refine Sr.o.mono ?_;rintro e w' ⟨rfl,rfl⟩
      ·go_wp2_with (first
        | (at_builtin;refine bu rfl _ _ rfl o6.heap.size (.slice a2 n2 p2) _ rfl (zi.o.ext (Ext.alloc _ _)) _ 1 _ [0] rfl (Ints.CL _ _ _ _ e8) (by rw[Sn.o];omega) (by simp;omega) ?_;intro v5 w5 ho hg k9;obtain⟨a5,n5,p5,rfl,CF⟩:=ho.var;have zW:=ae ho;have X5:=ae (ak (zk.o.trans (Ext.alloc _ _)) hg (fun j hj=>(zi.o.lt j hj).1));clear ho hg k9))
       go_roundg (g2-1)
       case measure=>have:=HJ.o;omega
       case rel=>exact⟨j+1,a5,n5,p5,ae (j1 HJ.o),by go_num,rfl,ae (by rw[<-Xh.o];exact zW.o),X5⟩
      ·go_wp2_with (first
        | (at_builtin;refine bu rfl _ _ rfl o6.heap.size (.slice a2 n2 p2) _ rfl (zi.o.ext (Ext.alloc _ _)) _ 1 _ [1] rfl (Ints.CL _ _ _ _ e8) (by rw[Sn.o];omega) (by simp;omega) ?_;intro v5 w5 ho hg k9;obtain⟨a5,n5,p5,rfl,CF⟩:=ho.var;have zW:=ae ho;have X5:=ae (ak (zk.o.trans (Ext.alloc _ _)) hg (fun j hj=>(zi.o.lt j hj).1));clear ho hg k9))
       go_roundg (g2-1)
       case measure=>have:=HJ.o;omega
       case rel=>exact⟨j+1,a5,n5,p5,ae (j1 HJ.o),by go_num,rfl,ae (by rw[<-Xh.o];exact zW.o),X5⟩
     ·have JA:j=J:=by have:=HJ.o;omega
      subst JA
      go_wp2_with (first
       | (at_builtin;refine fu rfl _ _ rfl w.heap.size (.slice (some ⟨G,0,none⟩) O p1) vs rfl ((HV.o.ext zk.o).ext (Ext.alloc _ _)) _ _ 1 rfl (by simp;rfl) rfl (j1 I9.o) (by simp;omega) ?_;intro v6 w6 ho hg k9;obtain⟨a6,n6,p6,rfl,H'⟩:=ho.var;obtain⟨G6,rfl,hG6,_⟩:=ho.cell (k:=0) (by rw[<-ho.len];simp);have Cf:=ae ho;have Mx:=ae (((HR.o.snoc zk.o zi.o hsz).ext (Ext.alloc _ _)).Gi ((HV.o.ext zk.o).ext (Ext.alloc _ _)) hg);have X6:=ae (ak ((HX.o.trans zk.o).trans (Ext.alloc _ _)) hg (fun j hj=>(HV.o.lt j hj).1));have Tz:=ae hG6;clear ho hg k9 hG6))
      go_roundg (g1-1)
      case measure=>have:=HK.o;omega
      case rel=>exact⟨k+1,G6,n6,p6,_,ae (j1 HK.o),by go_num,rfl,Cf,ae (by rw[cu (j1 HL.o),We,<-HS.o];exact Mx.o),X6,Tz⟩
   ·have Cr:k=m:=by have:=HK.o;omega
    subst Cr;have HT:=ae (show l.take k=l from p4 (by rw[HL.o];exact ao _));have B1:O=k:=by rw[<-HV.o.len,HR.o.len,HT.o,zo,HL.o]
    subst B1;have Mz:=ae (show Cy o6 w.heap.size (some ⟨G,0,none⟩) O p1 vs (l.map (BN J))from⟨HV.o,by have:=HR.o;rw[HT.o]at this;exact this⟩);obtain⟨M,hM⟩:=b9 (l.map (BN J));have HGD0:=ae (show Good J 1 M by rw[hM];exact kg J l);rw[<-hM]at Mz HN;have L5:=ae Mz.o.len;have hcp1:=Mz.o.cap.1;have Y7:=Mz.o.cap.2;have Vf:=HGW.o;clear hM;go_wp2_with fail
    go_loopg [11,50] J (fun gk dn cc wr=>∃(c d:Nat) (vs:List Value) (K:j5),b7 (gk+c=J)/\cc=.int .i64 (c:Int)/\dn=.int .i64 (d:Int)/\b7 (runM bZ M c=(K,d))/\b7 (Cy wr w.heap.size (some ⟨G,0,none⟩) O p1 vs K)/\b7 (Ext w wr))
    case atStart=>exact⟨0,0,vs,M,ae e7,rfl,rfl,ae rfl,Mz,HX⟩
    case round =>
     obtain⟨g3,D8⟩:=b9 gk;subst D8;obtain⟨I,B4⟩:=b9 wr;subst B4;obtain⟨c,d,vs,K,HK3,rfl,rfl,Sf,HM,zk⟩:=hrel;by_cases It:c<J
     ·have zO:=iO pr HGD0.o c e7;rw[Sf.o]at zO;obtain⟨JC,Vd,Qm,Iq⟩:=zO;simp only at JC Vd Qm Iq;have MB:=ae Iq;have Bs:=ae (show K.length=O by rw[Vd,L5.o]);rw[L5.o]at Qm;obtain⟨P,hP⟩:=b9 (AH K c d);have HP:=ae hP;have SZ:=vm K c (d:=d) (by rw[Bs.o];exact Qm);rw[<-hP,Bs.o]at SZ;obtain⟨hdP,hPN⟩:=SZ;have Un:=zk.o.size;have Kx:(I.alloc (.cells #[.int .i64 (c:Int)] 3)).cell? ⟨I.heap.size,0,none⟩=some (.int .i64 (c:Int)):=by simp
      have IN:=ae (nm ((HM.o.ext (Ext.alloc I (.cells #[.int .i64 (c:Int)] 3))).Hs.Vj Qm) wi (rI Kx It) (by
       intro k hk;rw[aaS]
       exact(MB.o (d+k) (by rw[Bs.o];omega)).1))
      rw[Re (by rw[Bs.o];exact Qm),<-hP,Bs.o]at IN;clear Vd Iq hP;by_cases Fw:P<O
      ·rw[hI Fw]at IN;obtain⟨q,hq⟩:=b9 (P-d);rw[<-hq]at IN;have HQ:=ae (show P=d+q by omega);clear hq;have Cb:d<O:=by omega
       rw[hD (show¬p1=d by omega)]at IN;go_wp2_with fail
       (with_reducible refine IN.o.mono ?_)
       rintro e w5 ⟨rfl,AK⟩;have D0:=ae AK;have D':=ae ((HM.o.ext (Ext.alloc I (.cells #[.int .i64 (c:Int)] 3))).ext AK);have Au:=ae (show w5.heap[I.heap.size]?=some (.cells #[.int .i64 (c:Int)] 3 (0,0))from(AK.block _ e8).trans (L' I _));have Zh:=(zk.o.trans (Ext.alloc _ _)).trans AK;have I4:=ae Zh;have EK:=AK.size;rw[V4]at EK;clear AK Zh Kx;obtain⟨gp,cp,hvp,OH,U,S0,Zc,hgpl,hncp,hcpm⟩:=D'.o.row Fw (MB.o P (by rw[Bs.o];exact Fw)).1 h1;obtain⟨gd,cd,Qh,RP,hod,hnd,Iv,hgdl,Yz,hcdm⟩:=D'.o.row Cb (MB.o d (by rw[Bs.o];exact Cb)).1 h1;obtain⟨G',CD,Gf,LH,Gb⟩:=D'.o.outer e7;simp only[bA,mq,zz]at CD;subst CD;have OD:=Gb d;have Mn:=Gb P;have DX:=eD (M:=K) (c:=c) (d:=d) (by rw[<-HP.o,Bs.o];exact Fw);rw[<-HP.o]at DX;have FM:=D'.o.swap Cb Fw;rw[hvp,Qh]at FM;obtain⟨M1,LG⟩:=b9 (swp K d P);obtain⟨vs1,Jo⟩:=b9 (Kb vs d P);have JQ:=ae (show Good J (J3 d) M1 by rw[LG];exact iV MB.o (by rw[Bs.o];exact Cb) (by rw[Bs.o];exact Fw));have FG:=ae (show M1.length=O by rw[LG,dh,Bs.o])
       have Gr:=ae (show runM bZ M (c+1)=(Bt bZ c M1 d O,d+1)by
        show Co bZ c (runM bZ M c)=_;rw[Sf.o];unfold Co;simp only
        rw[<-HP.o,Bs.o,hI Fw,LG])
       have HVD:=ae (show vs1[d]?.getD undef=.slice (some ⟨gp,0,none⟩) J cp by
        rw[Jo,jT (by rw[HM.o.BW];exact Cb) (by rw[HM.o.BW];exact Fw)]
        split
        ·next e=>rw[Qh,<-hvp,<-e,Qh]
        ·rw[hI rfl,hvp])
       have PJ:=ae (show∀i,i<O->∃g c',vs1[i]?.getD undef=.slice (some ⟨g,0,none⟩) J c'/\g<I.heap.size/\g≠G by
        intro i hi;rw[Jo,jT (by rw[HM.o.BW];exact Cb) (by rw[HM.o.BW];exact Fw)];have key:∀i,i<O->∃g c',vs[i]?.getD undef=.slice (some ⟨g,0,none⟩) J c'/\g<I.heap.size/\g≠G:=fun i hi=>by
         obtain⟨g,c',k1,_,_,k2,_,k3,_⟩:=HM.o.row hi (MB.o i (by rw[Bs.o];exact hi)).1 h1;exact⟨g,c',k1,k3,k2⟩
        split
        ·exact key d Cb
        ·split
         ·exact key _ Fw
         ·exact key i hi)
       rw[<-LG,<-Jo]at FM;have CR:=ae FM;have HGs:=ae (show G<I.heap.size by obtain⟨G',CD,_,h3,_⟩:=HM.o.outer e7;simp only[bA,mq,zz]at CD;omega);have GX:IntKind.i64.wrap ((d:Int)+(q:Int))=(P:Int):=by have:=HQ.o;rw[cn];omega
       have Gx:(d:Int)+(q:Int)=(P:Int):=by have:=HQ.o;omega
       have IW:IntKind.i64.wrap (P:Int)=(P:Int):=by rw[cn];omega
       clear FM DX U hod hvp Qh LG Jo Gb Zc Iv;by_cases hq0:P=d
       case' pos =>
        have hq00:q=0:=by have:=HQ.o;omega
        have C4:=hq0.symm;subst C4;subst hq00;have Be:=OH.symm.trans RP;simp only[bA,C',mq,zz,acq]at Be;obtain⟨rfl,rfl⟩:=Be;clear RP Mn GX Gx;go_wp2_with fail;refine dD (M:=[17,19]) (S:=(fun w'=>w'.cell? ⟨G,d,none⟩=some (.slice (some ⟨gp,0,none⟩) J cp)/\True)) e9 ?_;have l7:=(show(fun w':World=>w'.cell? ⟨G,d,none⟩=some (.slice (some ⟨gp,0,none⟩) J cp)/\True) w5.drew from⟨OH,trivial⟩);refine lp 0 ?_;refine lp 1 ?_;refine lp 2 ?_;refine lp 3 ?_;refine lp 4 ?_;refine lp 5 ?_;refine lp 6 ?_;refine lp 7 ?_;refine lp 8 ?_;refine lp 9 ?_;refine lp 10 ?_;refine ll 11 ?_;refine lp 12 ?_;refine lp 13 ?_;refine lp 14 ?_;refine ll 15 ?_;refine lp 16 ?_;refine dM (i:=17) (oi:=?_) (w':=?_) ?_ ?_ ?_ ?_ ?_ ?_ ?_;rotate_left 2
        ·simp only[gA,gB,gC];rfl
        ·kernel_rfl
        ·kernel_rfl
        ·exact EE e9
        ·rfl
        ·go_simp;(try with_reducible rfl)
        try simp only[Act.put,sA,sB,sC]
        refine oK (i:=18) (oi:=?_) (v:=?_) ?_ ?_ ?_ ?_ ?_ ?_ ?_ ?_ ?_;rotate_left 2
        ·simp only[gA,gB,gC];rfl
        ·kernel_rfl
        ·kernel_rfl
        ·kernel_rfl
        ·kernel_rfl
        ·exact fun _ _ _ h=>h
        ·refine aaJ ⟨by rfl,?_⟩;intro w hSw;(try dsimp only at hSw);go_simp;(try with_reducible rfl)
        ·kernel_rfl
        try simp only[Act.put,sA,sB,sC]
        refine dM (i:=19) (oi:=?_) (w':=?_) ?_ ?_ ?_ ?_ ?_ ?_ ?_;rotate_left 2
        ·simp only[gA,gB,gC];rfl
        ·kernel_rfl
        ·kernel_rfl
        ·exact EE e9
        ·rfl
        ·go_simp;(try with_reducible rfl)
        try simp only[Act.put,sA,sB,sC]
        refine dV e9 ?_ _
       case' neg =>
        have hne2:¬d=P:=fun e=>hq0 e.symm
        go_wp2_with fail;refine dD (M:=[17,19]) (S:=(fun w'=>w'.cell? ⟨G,P,none⟩=some (.slice (some ⟨gp,0,none⟩) J cp)/\w'.cell? ⟨G,d,none⟩=some (.slice (some ⟨gd,0,none⟩) J cd))) e9 ?_;have l7:=(show(fun w':World=>w'.cell? ⟨G,P,none⟩=some (.slice (some ⟨gp,0,none⟩) J cp)/\w'.cell? ⟨G,d,none⟩=some (.slice (some ⟨gd,0,none⟩) J cd)) w5.drew from⟨OH,RP⟩);refine lp 0 ?_;refine lp 1 ?_;refine lp 2 ?_;refine lp 3 ?_;refine lp 4 ?_;refine lp 5 ?_;refine lp 6 ?_;refine lp 7 ?_;refine lp 8 ?_;refine lp 9 ?_;refine lp 10 ?_;refine ll 11 ?_;refine lp 12 ?_;refine lp 13 ?_;refine lp 14 ?_;refine ll 15 ?_;refine lp 16 ?_;refine dM (i:=17) (oi:=?_) (w':=?_) ?_ ?_ ?_ ?_ ?_ ?_ ?_;rotate_left 2
        ·simp only[gA,gB,gC];rfl
        ·kernel_rfl
        ·kernel_rfl
        ·exact EE e9
        ·rfl
        ·go_simp;(try with_reducible rfl)
        try simp only[Act.put,sA,sB,sC]
        refine oK (i:=18) (oi:=?_) (v:=?_) ?_ ?_ ?_ ?_ ?_ ?_ ?_ ?_ ?_;rotate_left 2
        ·simp only[gA,gB,gC];rfl
        ·kernel_rfl
        ·kernel_rfl
        ·kernel_rfl
        ·kernel_rfl
        ·exact fun _ _ _ h=>h
        ·refine aaJ ⟨by rfl,?_⟩;intro w hSw;(try dsimp only at hSw);go_simp;(try with_reducible rfl)
        ·kernel_rfl
        try simp only[Act.put,sA,sB,sC]
        refine dM (i:=19) (oi:=?_) (w':=?_) ?_ ?_ ?_ ?_ ?_ ?_ ?_;rotate_left 2
        ·simp only[gA,gB,gC];rfl
        ·kernel_rfl
        ·kernel_rfl
        ·exact EE e9
        ·rfl
        ·go_simp;(try with_reducible rfl)
        try simp only[Act.put,sA,sB,sC]
        refine dV e9 ?_ _
       all_goals
        clear OH OD LH IW
        try clear RP
        try clear Mn
        try clear GX Gx
        try clear l7
       case' pos =>
        obtain⟨w6,F1⟩:=b9 (((w5.setCell ⟨G,d,none⟩ (.slice (some ⟨gp,0,none⟩) J cp)).setCell ⟨G,d,none⟩ (.slice (some ⟨gp,0,none⟩) J cp)).drew);rw[<-F1];have KK:=ae (show Cy w6 w.heap.size (some ⟨G,0,none⟩) O p1 vs1 M1 by rw[F1];exact CR.o.ext (Ext.drew _));have E8:=ae (show Ext w w6 by rw[F1];exact Ext.trans ((I4.o.setCell (p:=⟨G,d,none⟩) Vf _).setCell (p:=⟨G,d,none⟩) Vf _) (Ext.drew _))
        have Ie:=ae (show w6.heap[I.heap.size]?=some (.cells #[.int .i64 (c:Int)] 3 (0,0))by
         rw[F1];have hne:I.heap.size≠G:=by have:=HGs.o;omega
         show((w5.setCell ⟨G,d,none⟩ (.slice (some ⟨gp,0,none⟩) J cp)).setCell ⟨G,d,none⟩ (.slice (some ⟨gp,0,none⟩) J cp)).heap[I.heap.size]?=_
         rw[bB _ _ _ _ hne,bB _ _ _ _ hne];exact Au.o)
        clear F1
       case' neg =>
        obtain⟨w6,F1⟩:=b9 (((w5.setCell ⟨G,d,none⟩ (.slice (some ⟨gp,0,none⟩) J cp)).setCell ⟨G,P,none⟩ (.slice (some ⟨gd,0,none⟩) J cd)).drew);rw[<-F1];have KK:=ae (show Cy w6 w.heap.size (some ⟨G,0,none⟩) O p1 vs1 M1 by rw[F1];exact CR.o.ext (Ext.drew _));have E8:=ae (show Ext w w6 by rw[F1];exact Ext.trans ((I4.o.setCell (p:=⟨G,d,none⟩) Vf _).setCell (p:=⟨G,P,none⟩) Vf _) (Ext.drew _))
        have Ie:=ae (show w6.heap[I.heap.size]?=some (.cells #[.int .i64 (c:Int)] 3 (0,0))by
         rw[F1];have hne:I.heap.size≠G:=by have:=HGs.o;omega
         show((w5.setCell ⟨G,d,none⟩ (.slice (some ⟨gp,0,none⟩) J cp)).setCell ⟨G,P,none⟩ (.slice (some ⟨gd,0,none⟩) J cd)).heap[I.heap.size]?=_
         rw[bB _ _ _ _ hne,bB _ _ _ _ hne];exact Au.o)
        clear F1
       all_goals
        clear CR D' Au;obtain⟨gp',cp',hvp,hcp6,U,S0,Zc,hgpl6,hncp',hcpm'⟩:=KK.o.row Cb (JQ.o d (by rw[FG.o];exact Cb)).1 h1;have Be:=HVD.o.symm.trans hvp;simp only[C',bA,mq,zz,acq]at Be;obtain⟨rfl,rfl⟩:=Be;obtain⟨A,hA,hA'⟩:∃A:j6,(if p1=d+1 then some (⟨G,0,none⟩:Addr) else some ⟨G,d+1,none⟩)=A/\(d+1<O->A=some ⟨G,d+1,none⟩):=⟨_,rfl,fun h=>by rw[hD e7]⟩;have HA':=ae hA';have Ir:d+1<=O:=by omega
        clear hvp U S0 Zc hA';go_wp2_with fail;have Mc:=ae (show w.heap.size<=I.heap.size from Un);clear hA
        go_loopg [88] (O-(d+1)) (fun gk ii wr=>∃t:Nat,b7 (gk+(d+1+t)=O)/\ii=.int .i64 (t:Int)/\b7 (Cy wr w.heap.size (some ⟨G,0,none⟩) O p1 vs1 (Bt bZ c M1 d (d+1+t)))/\b7 (Ext w wr)/\b7 (wr.heap[I.heap.size]?=some (.cells #[.int .i64 (c:Int)] 3 (0,0))))
        case atStart=>exact⟨0,ae e7,rfl,ae (by rw[ab3,oU];exact KK.o),E8,Ie⟩
        case round =>
         obtain⟨g4,OV⟩:=b9 gk;subst OV;obtain⟨wr4,JG⟩:=b9 wr;subst JG;obtain⟨t,HT,rfl,Fl,Bk,DW⟩:=hrel;by_cases Um:d+1+t<O
         ·obtain rfl:=HA'.o e7;have htN1:t<O-(d+1):=by omega
          obtain⟨Q,G5⟩:=b9 (d+1+t);have H7:=ae G5;have HGR:=ae (show Good J (J3 (d+1)) (Bt bZ c M1 d Q)from mY JQ.o (gw d e7).2.2 (by rw[FG.o];exact Cb) fun p r En Gz h5 h6=>pr _ J c p r (gw d e7).1 En Gz h5 h6);rw[<-G5]at Fl;have Br:=ae (show(Bt bZ c M1 d Q).length=O by rw[dN,FG.o]);obtain⟨gt,ct,Km,hct,GB,hnt,J2,hgtl,hnct,hctm⟩:=Fl.o.row (i:=Q) e7 (HGR.o Q (by rw[Br.o];omega)).1 h1;obtain⟨gp',cp',hvp,hcp4,U,S0,Zc,hgpl4,_,_⟩:=Fl.o.row Cb (HGR.o d (by rw[Br.o];exact Cb)).1 h1;have Be:=HVD.o.symm.trans hvp;simp only[C',bA,mq,zz,acq]at Be;obtain⟨rfl,rfl⟩:=Be;have WU:=ae Km
          have H8:=ae (show gt<I.heap.size/\gt≠G by
           obtain⟨g,c',k1,k2,k3⟩:=PJ.o Q e7;rw[Km]at k1;simp only[C',bA,mq,zz,acq]at k1;obtain⟨rfl,_⟩:=k1
           exact⟨k2,k3⟩)
          have HAP:=ae (show gt≠gp from fun e=>Fl.o.rows.apart' (i:=d) (j:=Q) e7 (by rw[Br.o];exact Cb) (by rw[Br.o];omega) (by rw[hvp];rfl) (by rw[Km,e];rfl));rw[gV _ _ _ _ _ _ (by rw[FG.o];omega) e7]at GB;rw[gV _ _ _ _ _ _ (by rw[FG.o];exact Cb) e7]at U;obtain⟨r,hr⟩:=b9 (M1[Q]?.getD []);obtain⟨p,hp⟩:=b9 (M1[d]?.getD []);rw[<-hr]at GB;rw[<-hp]at U;have DB:=ae (JQ.o Q (by rw[FG.o];omega));have IT:=ae (JQ.o d (by rw[FG.o];exact Cb));rw[<-hr]at DB;rw[<-hp]at IT;have HOT:=ae GB;have Hn:=ae U;have C0:=ae hr;have PM:=ae hp;obtain⟨b,off,he,AB⟩:=GB.ints.at It;simp only[bA,mq,zz]at he;obtain⟨rfl,rfl⟩:=he;rw[Mf]at AB;obtain⟨rc,Io⟩:=b9 (r[c]?.getD 0);obtain⟨pc,Rw⟩:=b9 (p[c]?.getD 0);rw[<-Io]at AB;have JL:=ae Io;have II:=ae Rw;have LD:=aam DW.o;have HIDT:=ae (show d+1+t=Q from G5.symm);rw[G5]at hct;clear Km hvp GB U hr hp Io Rw G5 hcp4;by_cases hz:rc=0
          ·have Gp:=ae (yy (e:=bZ) (c:=c) (M:=M1) (d:=d) (t:=Q) (j1 H7.o) (by rw[FG.o];have:=H7.o;omega) (by unfold bZ;rw[<-C0.o,<-PM.o,<-JL.o,hI hz]));subst hz;go_wp2_with fail
           go_roundg (g4-1)
           case measure=>have:=HT.o;omega
           case rel=>exact⟨t+1,ae (j1 HT.o),by go_num,ae (by rw[show d+1+(t+1)=Q+1 by have:=H7.o;omega,<-Gp.o];exact Fl.o),Bk,DW⟩
          ·have hzb:(rc != 0)=true:=by simpa using hz
           have hzb':(rc == 0)=false:=by simpa using hz
           obtain⟨Z,Ot⟩:=b9 (zG c p r);obtain⟨Mt,Td⟩:=b9 (Bt bZ c M1 d Q);have GZ:Q<O:=by have:=H7.o;omega
           have hdt:d<Q:=by have:=H7.o;omega
           rw[<-Td]at Fl Br;have FF:=ae (show Z.length=r.length by rw[Ot,eK]);have HMtr:=ae (show Mt[Q]?.getD []=r by rw[Td,gV _ _ _ _ _ _ (by rw[FG.o];omega) e7,C0.o]);have HMtp:=ae (show Mt[d]?.getD []=p by rw[Td,gV _ _ _ _ _ _ (by rw[FG.o];omega) e7,PM.o])
           have HBM:=ae (show∀j:Nat,-2147483648<=Z[j]?.getD 0/\Z[j]?.getD 0<=2147483648 by
            intro j;rw[Ot];have h3:=(gw d e7).2.1;have h4:=(gw d e7).1
            exact sZ (B:=32768) (fun j=>by have:=IT.o.2 j;omega) (fun j=>by have:=DB.o.2 j;omega) j)
           have HBMx:=ae (show∀x∈Z,(-2147483648:Int)<=x/\x<=2147483648 by
            intro x hx;obtain⟨j,hj,rfl⟩:=acO hx;have:=HBM.o j;rw[bk hj]at this
            exact this)
           have ZU:=ae (show Mt.set Q (Z.map fun x=>x.tdiv (max (Da Z) 1))=Bt bZ c M1 d (Q+1)by
            rw[<-lw bZ c M1 d Q hdt (by rw[FG.o];exact GZ),Td]
            congr 1
            unfold bZ
            rw[<-C0.o,<-PM.o,hD (by rw[<-JL.o];exact hz),Ot])
           have Ho:=ae Ot;clear Ot Td;go_wp2_with fail
           go_loopg [18,100] J (fun gk gg jj wr=>∃(j:Nat) (gv:Int),b7 (gk+j=J)/\jj=.int .i64 (j:Int)/\gg=.int .i64 gv/\b7 (gv=(Z.take j).foldl gI 0)/\b7 (Cy wr w.heap.size (some ⟨G,0,none⟩) O p1 vs1 (Mt.set Q (DP Z r j)))/\b7 (Ext w wr)/\b7 (wr.heap[I.heap.size]?=some (.cells #[.int .i64 (c:Int)] 3 (0,0))))
           case atStart=>exact⟨0,0,ae e7,rfl,rfl,ae rfl,ae (by rw[qG,MZ (by rw[Br.o];exact GZ) HMtr.o];exact Fl.o),Bk,DW⟩
           case round =>
            obtain⟨g5,U4⟩:=b9 gk;subst U4;obtain⟨SB,OU⟩:=b9 wr;subst OU;obtain⟨j,gv,HJ,rfl,rfl,Gv,D',LO,Ig⟩:=hrel;have YU:=O6 (B:=2147483648) (Z.take j) 0 e7 e7 (fun x hx=>HBMx.o x (acA hx));rw[<-Gv.o]at YU;by_cases Eo:j<J
            ·have GB:=D'.o.rows.row Q (by rw[H4,Br.o];exact GZ);rw[WU.o,H3 (by rw[Br.o];exact GZ)]at GB;have U:=D'.o.rows.row d (by rw[H4,Br.o];exact Cb);rw[HVD.o,DZ e7,HMtp.o]at U;obtain⟨b,off,he,Wn⟩:=GB.ints.at Eo;simp only[bA,mq,zz]at he;obtain⟨rfl,rfl⟩:=he;rw[Mf,l',ve FF.o (by rw[DB.o.1];exact Eo)]at Wn;obtain⟨b,off,he,Wr⟩:=U.ints.at Eo;simp only[bA,mq,zz]at he;obtain⟨rfl,rfl⟩:=he;rw[Mf]at Wr;obtain⟨b,off,he,Ko⟩:=U.ints.at It;simp only[bA,mq,zz]at he;obtain⟨rfl,rfl⟩:=he;rw[Mf,<-II.o]at Ko;obtain⟨g',J1,_,Gb,_⟩:=GB.block Eo;simp only[bA,mq,zz]at J1;subst J1;have hfj:=Gb j;have hbc5:=aam Ig.o;obtain⟨rj,Uu⟩:=b9 (r[j]?.getD 0);obtain⟨pj,D5⟩:=b9 (p[j]?.getD 0);rw[<-Uu]at Wn;rw[<-D5]at Wr;have h3:=(gw d e7).2.1;have AS:=gT (B:=32768) (x:=rj) (y:=pc) (j1 (DB.o.2 j)) (j1 (DB.o.2 j)) (by have:=IT.o.2 c;have:=II.o;omega) (by have:=IT.o.2 c;have:=II.o;omega)
             have AD:=gT (B:=32768) (x:=rc) (y:=pj) (by have:=DB.o.2 c;have:=JL.o;omega) (by have:=DB.o.2 c;have:=JL.o;omega) (j1 (IT.o.2 j)) (j1 (IT.o.2 j));have GX:IntKind.i64.wrap (rj*pc)=rj*pc:=by rw[cn];omega
             have Ch:IntKind.i64.wrap (rc*pj)=rc*pj:=by rw[cn];omega
             have Gx:IntKind.i64.wrap (rj*pc-rc*pj)=rj*pc-rc*pj:=by rw[cn];omega
             have HV:=ae (show rj*pc-rc*pj=Z[j]?.getD 0 by rw[Ho.o,iN (by rw[DB.o.1];exact Eo),Uu,D5,II.o,JL.o]);have XU:zB (rj*pc-rc*pj):=by unfold zB;omega
             have Y0:zB gv:=by unfold zB;omega
             have HX18:=ae XU;have HG18:=ae Y0;clear GB U Uu D5 AS AD h3 XU Y0 Gb YU;go_wp2_with fail
             go_still_tail 19,e9
             change wpList _ _ _ _ _ SB.drew;go_wp2_with fail;refine(ki gv (rj*pc-rc*pj) _ HG18.o HX18.o).mono ?_;rintro e w7 ⟨rfl,hd⟩;have zU:=((D'.o.ext (Ext.drew SB)).FZ GZ WU.o j (rj*pc-rc*pj)).ext hd.ext;rw[HV.o,ro (by rw[Br.o];exact GZ) FF.o (by rw[DB.o.1];exact Eo)]at zU;have Ja:=ae zU;have Vz:=ae (Ext.trans (aec (p:=⟨gt,j,none⟩) (LO.o.trans (Ext.drew SB)) J2 (.int .i64 (rj*pc-rc*pj))) hd.ext)
             have Fb:=ae (show w7.heap[I.heap.size]?=some (.cells #[.int .i64 (c:Int)] 3 (0,0))by
              have hne:I.heap.size≠gt:=by have:=H8.o.1;omega
              have h0:(SB.drew.setCell ⟨gt,j,none⟩ (.int .i64 (rj*pc-rc*pj))).heap[I.heap.size]?=some (.cells #[.int .i64 (c:Int)] 3 (0,0)):=by
               rw[bB _ _ _ _ hne];exact Ig.o
              exact(hd.ext.block _ (mr h0)).trans h0)
             have HGV7:=ae (show gI gv (rj*pc-rc*pj)=(Z.take (j+1)).foldl gI 0 by
              rw[cu (by rw[FF.o,DB.o.1];exact Eo),abB,<-Gv.o,<-HV.o];rfl)
             clear zU hd GX Ch Gx;go_wp2_with fail
             go_roundg (g5-1)
             case measure=>have:=HJ.o;omega
             case rel=>exact⟨j+1,_,ae (j1 HJ.o),by go_num,rfl,HGV7,Ja,Vz,Fb⟩
            ·have JA:j=J:=by have:=HJ.o;omega
             have HGF:=ae (show max gv 1=max (Da Z) 1 by rw[Gv.o,p4 (by rw[FF.o,DB.o.1];omega)];rfl);have HMID:=ae (show DP Z r j=Z by rw[JA,<-DB.o.1,<-FF.o,sY FF.o]);rw[HMID.o]at D';subst JA;obtain⟨F,hF⟩:∃F:Int->Int,F=fun x=>x.tdiv (max gv 1):=⟨_,rfl⟩
             have Jc:=ae (show(Z.map F).length=Z.length by simp);have HFS:=ae (show Mt.set Q (Z.map F)=Bt bZ c M1 d (Q+1)by rw[hF,HGF.o];exact ZU.o);have QG:=ae hF;clear hF;by_cases Fv:1<=gv
             case' pos =>
              have HD:=ae (show∀y,F y=y.tdiv gv by intro y;rw[QG.o];simp only;congr 1;omega);have hgv':¬gv<1:=by omega
              have hmx1:max gv 1=gv:=by omega
              have Hz:(gv == 0)=false:=by simp;omega
             case' neg =>
              have hgv0:gv=0:=by omega
              subst hgv0;have hmx1:max (0:Int) 1=1:=by omega
              have HD:=ae (show∀y,F y=y by intro y;rw[QG.o];simp only;rw[show max (0:Int) 1=1 by omega,Int.tdiv_one])
             all_goals
              go_wp2_with fail
              go_loopg [131] j (fun gk ii wr=>∃i:Nat,b7 (gk+i=j)/\ii=.int .i64 (i:Int)/\b7 (Cy wr w.heap.size (some ⟨G,0,none⟩) O p1 vs1 (Mt.set Q (DP (Z.map F) Z i)))/\b7 (Ext w wr)/\b7 (wr.heap[I.heap.size]?=some (.cells #[.int .i64 (c:Int)] 3 (0,0))))
              case atStart=>exact⟨0,ae e7,rfl,ae (by rw[qG];exact D'.o),LO,Ig⟩
              case round =>
               obtain⟨g6,h_g6⟩:=b9 gk;subst h_g6;obtain⟨wr6,Zg⟩:=b9 wr;subst Zg;obtain⟨i,HI6,rfl,Sl,ZL,HB6r⟩:=hrel;by_cases LB:i<j
               ·have GB:=Sl.o.rows.row Q (by rw[H4,Br.o];exact GZ);rw[WU.o,H3 (by rw[Br.o];exact GZ),l']at GB;have hlen:=GB.ints.hlen;obtain⟨b,off,he,hyi⟩:=GB.ints.at LB;simp only[bA,mq,zz]at he;obtain⟨rfl,rfl⟩:=he;rw[Mf,ve Jc.o (by rw[FF.o,DB.o.1];exact LB)]at hyi;obtain⟨g',J1,_,Gb,_⟩:=GB.block LB;simp only[bA,mq,zz]at J1;subst J1;have hfi:=Gb i;obtain⟨yv,Ht⟩:=b9 (Z[i]?.getD 0);rw[<-Ht]at hyi;have GU:=HBM.o i;rw[<-Ht]at GU;obtain⟨hyb1,hyb2⟩:=GU;have QF:=ae (show F yv=(Z.map F)[i]?.getD 0 by rw[Ht];simp[FF.o,DB.o.1,LB]);rw[HD.o]at QF;have hw0:∀g:Int,IntKind.i64.wrap (yv.tdiv g)=yv.tdiv g:=by
                 intro g;have h2:(yv.tdiv g).natAbs<=yv.natAbs:=by rw[adC];exact adD _ _
                 rw[cn];omega
                first|have hw:=hw0 gv|skip
                clear GB Gb Ht hlen hw0;go_wp2_with fail
                go_roundg (g6-1)
                case measure=>have:=HI6.o;omega
                case rel =>
                 refine⟨i+1,ae (j1 HI6.o),by go_num,ae ?_,ae (aec (p:=⟨gt,i,none⟩) ZL.o J2 _),ae ?_⟩
                 ·rw[<-ro (m:=Z.map F) (r:=Z) (j:=i) (by rw[Br.o];exact GZ) Jc.o (by rw[FF.o,DB.o.1];exact LB),<-QF.o];exact Sl.o.FZ GZ WU.o i _
                 ·have hne:I.heap.size≠gt:=by have:=H8.o.1;omega
                  rw[bB _ _ _ _ hne];exact HB6r.o
               ·have YR:i=j:=by have:=HI6.o;omega
                have HMF:=ae (show Mt.set Q (DP (Z.map F) Z i)=Bt bZ c M1 d (Q+1)by
                 rw[<-HFS.o,show i=(Z.map F).length by rw[Jc.o,FF.o,DB.o.1];exact YR,sY Jc.o])
                rw[HMF.o]at Sl;subst YR;go_wp2_with fail
                go_roundg (g4-1)
                case measure=>have:=HT.o;omega
                case rel=>exact⟨t+1,ae (j1 HT.o),by go_num,ae (by rw[show d+1+(t+1)=Q+1 by have:=H7.o;omega];exact Sl.o),ZL,HB6r⟩
         ·have N':d+1+t=O:=by have:=HT.o;omega
          have Qt:=ae N';have htE2:t=O-(d+1):=by omega
          rw[N']at Fl;clear N';go_wp2_with fail
          go_roundg (g3-1)
          case measure=>have:=HK3.o;omega
          case rel=>exact⟨c+1,d+1,vs1,_,ae (j1 HK3.o),by go_num,by go_num,Gr,Fl,Bk⟩
      ·rw[hD Fw]at IN
       have Gr:=ae (show runM bZ M (c+1)=(K,d)by
        show Co bZ c (runM bZ M c)=_;rw[Sf.o];unfold Co;simp only
        rw[<-HP.o,Bs.o,hD Fw])
       by_cases hpd:p1=d
       case' pos=>subst hpd;rw[hI rfl,show O-p1=0 by omega,ab2]at IN
       case' neg=>rw[hD hpd]at IN
       all_goals
        go_wp2_with fail
        (with_reducible refine IN.o.mono ?_)
        rintro e w5 ⟨rfl,AK⟩;have D0:=ae ((zk.o.trans (Ext.alloc _ _)).trans AK);have D':=ae ((HM.o.ext (Ext.alloc I (.cells #[.int .i64 (c:Int)] 3))).ext AK);clear AK Kx;go_wp2_with fail
        go_roundg (g3-1)
        case measure=>have:=HK3.o;omega
        case rel=>exact⟨c+1,_,vs,K,ae (j1 HK3.o),by go_num,rfl,Gr,D',D0⟩
     ·have Is:c=J:=by have:=HK3.o;omega
      subst Is;go_wp2_with fail;go_ret;exact⟨ap (by rw[HN.o,Sf.o]),zk.o⟩
