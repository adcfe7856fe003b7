import Derived.Test.YtdadoignenffgaaGreatDoorSvAllG37
import Derived.Test.YtdadoignenffgaaGreatDoorSvAllG18
set_option linter.unusedVariables false
set_option linter.unusedSimpArgs false
namespace Go.Proofs.YtdadoignenffgaaGreatDoor
set_option maxHeartbeats 16000000
set_option maxRecDepth 100000
open Go.RowKit
theorem KL(n:Nat)(s:Int){b:Bool}(h:yq s (n:Int)=b):ys n s++[vX b]=ys (n+1) s:=by rw[<-h];exact mW n s
theorem JE{w:World}{n:Int}{a:j6}{m cap:Nat}{l:j7}(h:Ints w a m cap l)(hl:∀k:Nat,l[k]?.getD 0<=9223372036854775807)(hm:m<=1048576):
 Calls Tryz.prog 79 #[.int .i64 n,.slice a m cap] w fun e w'=>e=.returned (.int .i64 (eC n l))/\Ext w w':=by
 have Km:=h.l8;have Kn:=h.o0;have HL:=ae h.hlen;have HI:=ae h;have xi:=ae hl;clear h hl;cases wq:r' n 1 5
 ·have HN:=ae (show eC n l=0 by unfold eC;rw[wq];rfl);have HW:=ae (aJ n 1 5 w);rw[wq]at HW;clear wq;go_enter Tryz.func79,Tryz.ntmps79
  go_wp2_with fail;refine HW.o.mono ?_;rintro e w1 ⟨rfl,rfl⟩;go_wp2_with fail;go_ret;exact⟨aD HN.o.symm,Ext.refl _⟩
 ·obtain⟨I,rfl⟩:∃k:Nat,n=k:=⟨n.toNat,by simp only[r',Bool.and_eq_true,decide_eq_true_eq]at wq;omega⟩;have Y2:1<=I/\I<=5:=by simp only[r',Bool.and_eq_true,decide_eq_true_eq]at wq;omega
  obtain⟨h1,h5⟩:=Y2;have HN:=ae (show eC (I:Int) l=((runM bJ (l.map (ys I)) I).2:Int)by unfold eC;rw[if_pos wq];rfl);have HW:=ae (aJ I 1 5 w);rw[wq]at HW;have HO:=ae (vv.wJ w w.heap.size _ rfl (Nat.le_refl _));clear wq;go_enter Tryz.func79,Tryz.ntmps79
  go_wp2_with fail;refine HW.o.mono ?_;rintro e w1 ⟨rfl,rfl⟩;go_wp2_with fail
  go_loopg [5,27] m (fun gk out i wr=>∃(k G J p1:Nat) (vs:List Value),b7 (gk+k=m)/\i=.int .i64 (k:Int)/\out=.slice (some ⟨G,0,none⟩) J p1/\b7 (vv wr w.heap.size (.slice (some ⟨G,0,none⟩) J p1) vs)/\b7 (bu wr w.heap.size vs ((l.take k).map (ys I)))/\b7 (Ext w wr)/\b7 (w.heap.size<=G))
  case atStart=>exact⟨0,_,_,_,[],ae e7,rfl,rfl,HO,ae (bu.nil _ _),ae (Ext.alloc _ _),ae (Nat.le_refl _)⟩
  case round =>
   obtain⟨g1,o6⟩:=b9 gk;subst o6;obtain⟨o8,o4⟩:=b9 wr;subst o4;obtain⟨k,G,J,p1,vs,HK,rfl,rfl,HV,HR,HX,HGW⟩:=hrel;have hsz:=HX.o.size;by_cases hlt:k<m
   ·obtain⟨b,off,ha,AO⟩:=(HI.o.ext HX.o).at hlt;subst ha;obtain⟨s,hs⟩:=b9 (l[k]?.getD 0);rw[<-hs]at AO;have HS:=ae hs;have G8:s<=9223372036854775807:=by rw[hs];exact xi.o k
    have wG:=ae (o5.wJ o8 o8.heap.size _ rfl (Nat.le_refl _));have EF:=ae (show vs.length=k by rw[HR.o.len,List.length_map,List.length_take];have:=HL.o;omega);clear hs;go_wp2_with fail
    go_loopg [8,33] I (fun gk row i wr=>∃(j:Nat) (a2:j6) (n2 p2:Nat),b7 (gk+j=I)/\i=.int .i64 (j:Int)/\row=.slice a2 n2 p2/\b7 (o5 wr o8.heap.size (.slice a2 n2 p2) (ys j s))/\b7 (Ext o8 wr))
    case atStart=>exact⟨0,_,_,_,ae e7,rfl,rfl,wG,ae (Ext.alloc _ _)⟩
    case round =>
     obtain⟨g2,wv⟩:=b9 gk;subst wv;obtain⟨wr2,vo⟩:=b9 wr;subst vo;obtain⟨j,a2,n2,p2,HJ,rfl,rfl,vi,vk⟩:=hrel;have BP:=vk.o.size;by_cases A6:j<I
     ·have NX:=ae (iK j s);have N2:=ae (fH s (j:Int) wr2 G8);cases Ip:yq s (j:Int)
      all_goals
       rw[Ip]at N2;have Se:=ae (KL j s Ip);clear Ip;go_wp2_with fail;refine N2.o.mono ?_;rintro e w' ⟨rfl,rfl⟩
      ·go_wp2_with (first
        | (at_builtin;refine bv rfl _ _ rfl o8.heap.size (.slice a2 n2 p2) _ rfl (vi.o.ext (Ext.alloc _ _)) _ 1 _ [0] rfl (Ints.zp _ _ _ _ e8) (by rw[NX.o];omega) (by simp;omega) ?_;intro v5 w5 ho hg l7;obtain⟨a5,n5,p5,rfl,zj⟩:=ho.var;have vU:=ae ho;have X5:=ae (ak (vk.o.trans (Ext.alloc _ _)) hg (fun j hj=>(vi.o.lt j hj).1));clear ho hg l7))
       go_roundg (g2-1)
       case measure=>have:=HJ.o;omega
       case rel=>exact⟨j+1,a5,n5,p5,ae (j1 HJ.o),by go_num,rfl,ae (by rw[<-Se.o];exact vU.o),X5⟩
      ·go_wp2_with (first
        | (at_builtin;refine bv rfl _ _ rfl o8.heap.size (.slice a2 n2 p2) _ rfl (vi.o.ext (Ext.alloc _ _)) _ 1 _ [1] rfl (Ints.zp _ _ _ _ e8) (by rw[NX.o];omega) (by simp;omega) ?_;intro v5 w5 ho hg l7;obtain⟨a5,n5,p5,rfl,zj⟩:=ho.var;have vU:=ae ho;have X5:=ae (ak (vk.o.trans (Ext.alloc _ _)) hg (fun j hj=>(vi.o.lt j hj).1));clear ho hg l7))
       go_roundg (g2-1)
       case measure=>have:=HJ.o;omega
       case rel=>exact⟨j+1,a5,n5,p5,ae (j1 HJ.o),by go_num,rfl,ae (by rw[<-Se.o];exact vU.o),X5⟩
     ·have E8:j=I:=by have:=HJ.o;omega
      subst E8
      go_wp2_with (first
       | (at_builtin;refine eF rfl _ _ rfl w.heap.size (.slice (some ⟨G,0,none⟩) J p1) vs rfl ((HV.o.ext vk.o).ext (Ext.alloc _ _)) _ _ 1 rfl (by simp;rfl) rfl (j1 EF.o) (by simp;omega) ?_;intro v6 w6 ho hg l7;obtain⟨a6,n6,p6,rfl,Eh⟩:=ho.var;obtain⟨G6,rfl,hG6,_⟩:=ho.cell (k:=0) (by rw[<-ho.len];simp);have yT:=ae ho;have Iz:=ae (((HR.o.snoc vk.o vi.o hsz).ext (Ext.alloc _ _)).CD ((HV.o.ext vk.o).ext (Ext.alloc _ _)) hg);have X6:=ae (ak ((HX.o.trans vk.o).trans (Ext.alloc _ _)) hg (fun j hj=>(HV.o.lt j hj).1));have O':=ae hG6;clear ho hg l7 hG6))
      go_roundg (g1-1)
      case measure=>have:=HK.o;omega
      case rel=>exact⟨k+1,G6,n6,p6,_,ae (j1 HK.o),by go_num,rfl,yT,ae (by rw[cH (j1 HL.o),List.map_append,<-HS.o];exact Iz.o),X6,O'⟩
   ·have yV:k=m:=by have:=HK.o;omega
    subst yV;have HT:=ae (show l.take k=l from List.take_of_length_le (by rw[HL.o];exact Nat.le_refl _));have zv:J=k:=by rw[<-HV.o.len,HR.o.len,HT.o,List.length_map,HL.o]
    subst zv;have IB:=ae (show zd o8 w.heap.size (some ⟨G,0,none⟩) J p1 vs (l.map (ys I))from⟨HV.o,by have:=HR.o;rw[HT.o]at this;exact this⟩);obtain⟨M,hM⟩:=b9 (l.map (ys I));have Z9:=ae (show Good I 1 M by rw[hM];exact iL I l);rw[<-hM]at IB HN;have NW:=ae IB.o.len;have hcp1:=IB.o.cap.1;have TD:=IB.o.cap.2;have QB:=HGW.o;clear hM;go_wp2_with fail
    go_loopg [11,50] I (fun gk dn cc wr=>∃(c d:Nat) (vs:List Value) (K:j5),b7 (gk+c=I)/\cc=.int .i64 (c:Int)/\dn=.int .i64 (d:Int)/\b7 (runM bJ M c=(K,d))/\b7 (zd wr w.heap.size (some ⟨G,0,none⟩) J p1 vs K)/\b7 (Ext w wr))
    case atStart=>exact⟨0,0,vs,M,ae e7,rfl,rfl,ae rfl,IB,HX⟩
    case round =>
     obtain⟨g3,AT⟩:=b9 gk;subst AT;obtain⟨E,yE⟩:=b9 wr;subst yE;obtain⟨c,d,vs,K,U3,rfl,rfl,NQ,HM,vk⟩:=hrel;by_cases Nl:c<I
     ·have wj:=gJ me Z9.o c e7;rw[NQ.o]at wj;obtain⟨Fb,Qz,LJ,D0⟩:=wj;simp only at Fb Qz LJ D0;have L4:=ae D0;have xX:=ae (show K.length=J by rw[Qz,NW.o]);rw[NW.o]at LJ;obtain⟨P,hP⟩:=b9 (wP K c d);have HP:=ae hP;have Oz:=rC K c (d:=d) (by rw[xX.o];exact LJ);rw[<-hP,xX.o]at Oz;obtain⟨hdP,hPN⟩:=Oz;have SP:=vk.o.size;have F8:(E.alloc (.cells #[.int .i64 (c:Int)] 3)).cell? ⟨E.heap.size,0,none⟩=some (.int .i64 (c:Int)):=by simp
      have Ej:=ae (kG ((HM.o.ext (Ext.alloc E (.cells #[.int .i64 (c:Int)] 3))).DC.QE LJ) sz (oA F8 Nl) (by
       intro k hk;rw[List.getElem?_drop]
       exact(L4.o (d+k) (by rw[xX.o];omega)).1))
      rw[MH (by rw[xX.o];exact LJ),<-hP,xX.o]at Ej;clear Qz D0 hP;by_cases BW:P<J
      ·rw[if_pos BW]at Ej;obtain⟨q,hq⟩:=b9 (P-d);rw[<-hq]at Ej;have HQ:=ae (show P=d+q by omega);clear hq;have yJ:d<J:=by omega
       rw[if_neg (show¬p1=d by omega)]at Ej;go_wp2_with fail
       (with_reducible refine Ej.o.mono ?_)
       rintro e w5 ⟨rfl,wX⟩;have AH:=ae wX;have AU:=ae ((HM.o.ext (Ext.alloc E (.cells #[.int .i64 (c:Int)] 3))).ext wX);have wE:=ae (show w5.heap[E.heap.size]?=some (.cells #[.int .i64 (c:Int)] 3 (0,0))from(wX.block _ e8).trans (heap_alloc_new E _));have TP:=(vk.o.trans (Ext.alloc _ _)).trans wX;have Ey:=ae TP;have Bm:=wX.size;rw[World.size_alloc]at Bm;clear wX TP F8;obtain⟨gp,cp,W,Kl,Q,OA,TM,Yd,XB,Yv⟩:=AU.o.row BW (L4.o P (by rw[xX.o];exact BW)).1 h1;obtain⟨gd,cd,LG,Nn,Xr,hnd,Fc,Yh,Tc,YB⟩:=AU.o.row yJ (L4.o d (by rw[xX.o];exact yJ)).1 h1;obtain⟨G',zi,CB,Hl,CX⟩:=AU.o.outer e7;simp only[Option.some.injEq,Addr.mk.injEq,and_true]at zi;subst zi;have Kh:=CX d;have Iq:=CX P;have AG:=ea (M:=K) (c:=c) (d:=d) (by rw[<-HP.o,xX.o];exact BW);rw[<-HP.o]at AG;have B9:=AU.o.swap yJ BW;rw[W,LG]at B9;obtain⟨M1,Hk⟩:=b9 (swp K d P);obtain⟨Z,ES⟩:=b9 (FL vs d P);have Gq:=ae (show Good I (Fz d) M1 by rw[Hk];exact gQ L4.o (by rw[xX.o];exact yJ) (by rw[xX.o];exact BW));have B5:=ae (show M1.length=J by rw[Hk,cI,xX.o])
       have CN:=ae (show runM bJ M (c+1)=(xY bJ c M1 d J,d+1)by
        show yQ bJ c (runM bJ M c)=_;rw[NQ.o];unfold yQ;simp only
        rw[<-HP.o,xX.o,if_pos BW,Hk])
       have Zo:=ae (show Z[d]?.getD undef=.slice (some ⟨gp,0,none⟩) I cp by
        rw[ES,iD (by rw[HM.o.yy];exact yJ) (by rw[HM.o.yy];exact BW)]
        split
        ·next e=>rw[LG,<-W,<-e,LG]
        ·rw[if_pos rfl,W])
       have La:=ae (show∀i,i<J->∃g c',Z[i]?.getD undef=.slice (some ⟨g,0,none⟩) I c'/\g<E.heap.size/\g≠G by
        intro i hi;rw[ES,iD (by rw[HM.o.yy];exact yJ) (by rw[HM.o.yy];exact BW)];have key:∀i,i<J->∃g c',vs[i]?.getD undef=.slice (some ⟨g,0,none⟩) I c'/\g<E.heap.size/\g≠G:=fun i hi=>by
         obtain⟨g,c',k1,_,_,k2,_,k3,_⟩:=HM.o.row hi (L4.o i (by rw[xX.o];exact hi)).1 h1;exact⟨g,c',k1,k3,k2⟩
        split
        ·exact key d yJ
        ·split
         ·exact key _ BW
         ·exact key i hi)
       rw[<-Hk,<-ES]at B9;have zx:=ae B9;have HGs:=ae (show G<E.heap.size by obtain⟨G',zi,_,h3,_⟩:=HM.o.outer e7;simp only[Option.some.injEq,Addr.mk.injEq,and_true]at zi;omega);have DG:IntKind.i64.wrap ((d:Int)+(q:Int))=(P:Int):=by have:=HQ.o;rw[IntKind.wrap_i64];omega
       have DF:(d:Int)+(q:Int)=(P:Int):=by have:=HQ.o;omega
       have Gy:IntKind.i64.wrap (P:Int)=(P:Int):=by rw[IntKind.wrap_i64];omega
       clear B9 AG Q Xr W LG Hk ES CX TM Fc;by_cases Xk:P=d
       case' pos =>
        have Xj:q=0:=by have:=HQ.o;omega
        have Ao:=Xk.symm;subst Ao;subst Xj;have xH:=Kl.symm.trans Nn;simp only[Option.some.injEq,Value.slice.injEq,Addr.mk.injEq,and_true,true_and]at xH;obtain⟨rfl,rfl⟩:=xH;clear Nn Iq DG DF;go_wp2_with fail;refine dr (M:=[17,19]) (S:=(fun w'=>w'.cell? ⟨G,d,none⟩=some (.slice (some ⟨gp,0,none⟩) I cp)/\True)) e9 ?_;have k9:=(show(fun w':World=>w'.cell? ⟨G,d,none⟩=some (.slice (some ⟨gp,0,none⟩) I cp)/\True) w5.drew from⟨Kl,trivial⟩);refine lp 0 ?_;refine lp 1 ?_;refine lp 2 ?_;refine lp 3 ?_;refine lp 4 ?_;refine lp 5 ?_;refine lp 6 ?_;refine lp 7 ?_;refine lp 8 ?_;refine lp 9 ?_;refine lp 10 ?_;refine ll 11 ?_;refine lp 12 ?_;refine lp 13 ?_;refine lp 14 ?_;refine ll 15 ?_;refine lp 16 ?_;refine dH (i:=17) (oi:=?_) (w':=?_) ?_ ?_ ?_ ?_ ?_ ?_ ?_;rotate_left 2
        ·simp only[gA,gB,gC];rfl
        ·kernel_rfl
        ·kernel_rfl
        ·exact of_decide_eq_true e9
        ·rfl
        ·go_simp;(try with_reducible rfl)
        try simp only[Act.put,sA,sB,sC]
        refine lL (i:=18) (oi:=?_) (v:=?_) ?_ ?_ ?_ ?_ ?_ ?_ ?_ ?_ ?_;rotate_left 2
        ·simp only[gA,gB,gC];rfl
        ·kernel_rfl
        ·kernel_rfl
        ·kernel_rfl
        ·kernel_rfl
        ·exact fun _ _ _ h=>h
        ·refine Or.inl ⟨by rfl,?_⟩;intro w hSw;(try dsimp only at hSw);go_simp;(try with_reducible rfl)
        ·kernel_rfl
        try simp only[Act.put,sA,sB,sC]
        refine dH (i:=19) (oi:=?_) (w':=?_) ?_ ?_ ?_ ?_ ?_ ?_ ?_;rotate_left 2
        ·simp only[gA,gB,gC];rfl
        ·kernel_rfl
        ·kernel_rfl
        ·exact of_decide_eq_true e9
        ·rfl
        ·go_simp;(try with_reducible rfl)
        try simp only[Act.put,sA,sB,sC]
        refine dM e9 ?_ _
       case' neg =>
        have hne2:¬d=P:=fun e=>Xk e.symm
        go_wp2_with fail;refine dr (M:=[17,19]) (S:=(fun w'=>w'.cell? ⟨G,P,none⟩=some (.slice (some ⟨gp,0,none⟩) I cp)/\w'.cell? ⟨G,d,none⟩=some (.slice (some ⟨gd,0,none⟩) I cd))) e9 ?_;have k9:=(show(fun w':World=>w'.cell? ⟨G,P,none⟩=some (.slice (some ⟨gp,0,none⟩) I cp)/\w'.cell? ⟨G,d,none⟩=some (.slice (some ⟨gd,0,none⟩) I cd)) w5.drew from⟨Kl,Nn⟩);refine lp 0 ?_;refine lp 1 ?_;refine lp 2 ?_;refine lp 3 ?_;refine lp 4 ?_;refine lp 5 ?_;refine lp 6 ?_;refine lp 7 ?_;refine lp 8 ?_;refine lp 9 ?_;refine lp 10 ?_;refine ll 11 ?_;refine lp 12 ?_;refine lp 13 ?_;refine lp 14 ?_;refine ll 15 ?_;refine lp 16 ?_;refine dH (i:=17) (oi:=?_) (w':=?_) ?_ ?_ ?_ ?_ ?_ ?_ ?_;rotate_left 2
        ·simp only[gA,gB,gC];rfl
        ·kernel_rfl
        ·kernel_rfl
        ·exact of_decide_eq_true e9
        ·rfl
        ·go_simp;(try with_reducible rfl)
        try simp only[Act.put,sA,sB,sC]
        refine lL (i:=18) (oi:=?_) (v:=?_) ?_ ?_ ?_ ?_ ?_ ?_ ?_ ?_ ?_;rotate_left 2
        ·simp only[gA,gB,gC];rfl
        ·kernel_rfl
        ·kernel_rfl
        ·kernel_rfl
        ·kernel_rfl
        ·exact fun _ _ _ h=>h
        ·refine Or.inl ⟨by rfl,?_⟩;intro w hSw;(try dsimp only at hSw);go_simp;(try with_reducible rfl)
        ·kernel_rfl
        try simp only[Act.put,sA,sB,sC]
        refine dH (i:=19) (oi:=?_) (w':=?_) ?_ ?_ ?_ ?_ ?_ ?_ ?_;rotate_left 2
        ·simp only[gA,gB,gC];rfl
        ·kernel_rfl
        ·kernel_rfl
        ·exact of_decide_eq_true e9
        ·rfl
        ·go_simp;(try with_reducible rfl)
        try simp only[Act.put,sA,sB,sC]
        refine dM e9 ?_ _
       all_goals
        clear Kl Kh Hl Gy
        try clear Nn
        try clear Iq
        try clear DG DF
        try clear k9
       case' pos =>
        obtain⟨w6,Cn⟩:=b9 (((w5.setCell ⟨G,d,none⟩ (.slice (some ⟨gp,0,none⟩) I cp)).setCell ⟨G,d,none⟩ (.slice (some ⟨gp,0,none⟩) I cp)).drew);rw[<-Cn];have Gn:=ae (show zd w6 w.heap.size (some ⟨G,0,none⟩) J p1 Z M1 by rw[Cn];exact zx.o.ext (Ext.drew _));have BA:=ae (show Ext w w6 by rw[Cn];exact Ext.trans ((Ey.o.setCell (p:=⟨G,d,none⟩) QB _).setCell (p:=⟨G,d,none⟩) QB _) (Ext.drew _))
        have DT:=ae (show w6.heap[E.heap.size]?=some (.cells #[.int .i64 (c:Int)] 3 (0,0))by
         rw[Cn];have hne:E.heap.size≠G:=by have:=HGs.o;omega
         show((w5.setCell ⟨G,d,none⟩ (.slice (some ⟨gp,0,none⟩) I cp)).setCell ⟨G,d,none⟩ (.slice (some ⟨gp,0,none⟩) I cp)).heap[E.heap.size]?=_
         rw[heap_setCell_other _ _ _ _ hne,heap_setCell_other _ _ _ _ hne];exact wE.o)
        clear Cn
       case' neg =>
        obtain⟨w6,Cn⟩:=b9 (((w5.setCell ⟨G,d,none⟩ (.slice (some ⟨gp,0,none⟩) I cp)).setCell ⟨G,P,none⟩ (.slice (some ⟨gd,0,none⟩) I cd)).drew);rw[<-Cn];have Gn:=ae (show zd w6 w.heap.size (some ⟨G,0,none⟩) J p1 Z M1 by rw[Cn];exact zx.o.ext (Ext.drew _));have BA:=ae (show Ext w w6 by rw[Cn];exact Ext.trans ((Ey.o.setCell (p:=⟨G,d,none⟩) QB _).setCell (p:=⟨G,P,none⟩) QB _) (Ext.drew _))
        have DT:=ae (show w6.heap[E.heap.size]?=some (.cells #[.int .i64 (c:Int)] 3 (0,0))by
         rw[Cn];have hne:E.heap.size≠G:=by have:=HGs.o;omega
         show((w5.setCell ⟨G,d,none⟩ (.slice (some ⟨gp,0,none⟩) I cp)).setCell ⟨G,P,none⟩ (.slice (some ⟨gd,0,none⟩) I cd)).heap[E.heap.size]?=_
         rw[heap_setCell_other _ _ _ _ hne,heap_setCell_other _ _ _ _ hne];exact wE.o)
        clear Cn
       all_goals
        clear zx AU wE;obtain⟨gp',cp',W,hcp6,Q,OA,TM,hgpl6,hncp',hcpm'⟩:=Gn.o.row yJ (Gq.o d (by rw[B5.o];exact yJ)).1 h1;have xH:=Zo.o.symm.trans W;simp only[Value.slice.injEq,Option.some.injEq,Addr.mk.injEq,and_true,true_and]at xH;obtain⟨rfl,rfl⟩:=xH;obtain⟨A,hA,hA'⟩:∃A:j6,(if p1=d+1 then some (⟨G,0,none⟩:Addr) else some ⟨G,d+1,none⟩)=A/\(d+1<J->A=some ⟨G,d+1,none⟩):=⟨_,rfl,fun h=>by rw[if_neg e7]⟩;have HA':=ae hA';have D1:d+1<=J:=by omega
        clear W Q OA TM hA';go_wp2_with fail;have Ig:=ae (show w.heap.size<=E.heap.size from SP);clear hA
        go_loopg [88] (J-(d+1)) (fun gk ii wr=>∃t:Nat,b7 (gk+(d+1+t)=J)/\ii=.int .i64 (t:Int)/\b7 (zd wr w.heap.size (some ⟨G,0,none⟩) J p1 Z (xY bJ c M1 d (d+1+t)))/\b7 (Ext w wr)/\b7 (wr.heap[E.heap.size]?=some (.cells #[.int .i64 (c:Int)] 3 (0,0))))
        case atStart=>exact⟨0,ae e7,rfl,ae (by rw[Nat.add_zero,lV];exact Gn.o),BA,DT⟩
        case round =>
         obtain⟨g4,Kw⟩:=b9 gk;subst Kw;obtain⟨wr4,Ff⟩:=b9 wr;subst Ff;obtain⟨t,HT,rfl,BL,xO,Cf⟩:=hrel;by_cases PK:d+1+t<J
         ·obtain rfl:=HA'.o e7;have htN1:t<J-(d+1):=by omega
          obtain⟨O,B8⟩:=b9 (d+1+t);have GO:=ae B8;have U':=ae (show Good I (Fz (d+1)) (xY bJ c M1 d O)from kC Gq.o (fi d e7).2.2 (by rw[B5.o];exact yJ) fun p r BR CS h5 h6=>me _ I c p r (fi d e7).1 BR CS h5 h6);rw[<-B8]at BL;have xW:=ae (show(xY bJ c M1 d O).length=J by rw[dm,B5.o]);obtain⟨gt,ct,FX,VD,CW,hnt,Is,hgtl,Xz,Yt⟩:=BL.o.row (i:=O) e7 (U'.o O (by rw[xW.o];omega)).1 h1;obtain⟨gp',cp',W,Yx,Q,OA,TM,hgpl4,_,_⟩:=BL.o.row yJ (U'.o d (by rw[xW.o];exact yJ)).1 h1;have xH:=Zo.o.symm.trans W;simp only[Value.slice.injEq,Option.some.injEq,Addr.mk.injEq,and_true,true_and]at xH;obtain⟨rfl,rfl⟩:=xH;have R5:=ae FX
          have FE:=ae (show gt<E.heap.size/\gt≠G by
           obtain⟨g,c',k1,k2,k3⟩:=La.o O e7;rw[FX]at k1;simp only[Value.slice.injEq,Option.some.injEq,Addr.mk.injEq,and_true,true_and]at k1;obtain⟨rfl,_⟩:=k1
           exact⟨k2,k3⟩)
          have HAP:=ae (show gt≠gp from fun e=>BL.o.rows.apart' (i:=d) (j:=O) e7 (by rw[xW.o];exact yJ) (by rw[xW.o];omega) (by rw[W];rfl) (by rw[FX,e];rfl));rw[fC _ _ _ _ _ _ (by rw[B5.o];omega) e7]at CW;rw[fC _ _ _ _ _ _ (by rw[B5.o];exact yJ) e7]at Q;obtain⟨r,hr⟩:=b9 (M1[O]?.getD []);obtain⟨p,hp⟩:=b9 (M1[d]?.getD []);rw[<-hr]at CW;rw[<-hp]at Q;have Ak:=ae (Gq.o O (by rw[B5.o];omega));have Em:=ae (Gq.o d (by rw[B5.o];exact yJ));rw[<-hr]at Ak;rw[<-hp]at Em;have HOT:=ae CW;have Dy:=ae Q;have zE:=ae hr;have Lc:=ae hp;obtain⟨b,off,he,wK⟩:=CW.ints.at Nl;simp only[Option.some.injEq,Addr.mk.injEq,and_true]at he;obtain⟨rfl,rfl⟩:=he;rw[Nat.zero_add]at wK;obtain⟨rc,J1⟩:=b9 (r[c]?.getD 0);obtain⟨pc,MZ⟩:=b9 (p[c]?.getD 0);rw[<-J1]at wK;have Gk:=ae J1;have Ed:=ae MZ;have Hh:=cell_of_one Cf.o;have HIDT:=ae (show d+1+t=O from B8.symm);rw[B8]at VD;clear FX W CW Q hr hp J1 MZ B8 Yx;by_cases hz:rc=0
          ·have CK:=ae (uy (e:=bJ) (c:=c) (M:=M1) (d:=d) (t:=O) (j1 GO.o) (by rw[B5.o];have:=GO.o;omega) (by unfold bJ;rw[<-zE.o,<-Lc.o,<-Gk.o,if_pos hz]));subst hz;go_wp2_with fail
           go_roundg (g4-1)
           case measure=>have:=HT.o;omega
           case rel=>exact⟨t+1,ae (j1 HT.o),by go_num,ae (by rw[show d+1+(t+1)=O+1 by have:=GO.o;omega,<-CK.o];exact BL.o),xO,Cf⟩
          ·have hzb:(rc != 0)=true:=by simpa using hz
           have hzb':(rc == 0)=false:=by simpa using hz
           obtain⟨U,M4⟩:=b9 (vC c p r);obtain⟨Mt,ON⟩:=b9 (xY bJ c M1 d O);have Dg:O<J:=by have:=GO.o;omega
           have Yn:d<O:=by have:=GO.o;omega
           rw[<-ON]at BL xW;have B4:=ae (show U.length=r.length by rw[M4,ef]);have ZO:=ae (show Mt[O]?.getD []=r by rw[ON,fC _ _ _ _ _ _ (by rw[B5.o];omega) e7,zE.o]);have ZP:=ae (show Mt[d]?.getD []=p by rw[ON,fC _ _ _ _ _ _ (by rw[B5.o];omega) e7,Lc.o])
           have HBM:=ae (show∀j:Nat,-2147483648<=U[j]?.getD 0/\U[j]?.getD 0<=2147483648 by
            intro j;rw[M4];have h3:=(fi d e7).2.1;have h4:=(fi d e7).1
            exact pB (B:=32768) (fun j=>by have:=Em.o.2 j;omega) (fun j=>by have:=Ak.o.2 j;omega) j)
           have HBMx:=ae (show∀x∈U,(-2147483648:Int)<=x/\x<=2147483648 by
            intro x hx;obtain⟨j,hj,rfl⟩:=List.getElem_of_mem hx;have:=HBM.o j;rw[List.getElem?_eq_getElem hj]at this
            exact this)
           have Ut:=ae (show Mt.set O (U.map fun x=>x.tdiv (max (zI U) 1))=xY bJ c M1 d (O+1)by
            rw[<-jy bJ c M1 d O Yn (by rw[B5.o];exact Dg),ON]
            congr 1
            unfold bJ
            rw[<-zE.o,<-Lc.o,if_neg (by rw[<-Gk.o];exact hz),M4])
           have Fl:=ae M4;clear M4 ON;go_wp2_with fail
           go_loopg [18,100] I (fun gk gg jj wr=>∃(j:Nat) (gv:Int),b7 (gk+j=I)/\jj=.int .i64 (j:Int)/\gg=.int .i64 gv/\b7 (gv=(U.take j).foldl gI 0)/\b7 (zd wr w.heap.size (some ⟨G,0,none⟩) J p1 Z (Mt.set O (Az U r j)))/\b7 (Ext w wr)/\b7 (wr.heap[E.heap.size]?=some (.cells #[.int .i64 (c:Int)] 3 (0,0))))
           case atStart=>exact⟨0,0,ae e7,rfl,rfl,ae rfl,ae (by rw[nz,IY (by rw[xW.o];exact Dg) ZO.o];exact BL.o),xO,Cf⟩
           case round =>
            obtain⟨g5,Qq⟩:=b9 gk;subst Qq;obtain⟨Oa,Kv⟩:=b9 wr;subst Kv;obtain⟨j,gv,HJ,rfl,rfl,CQ,AU,Hq,DU⟩:=hrel;have Tt:=KC (B:=2147483648) (U.take j) 0 e7 e7 (fun x hx=>HBMx.o x (List.mem_of_mem_take hx));rw[<-CQ.o]at Tt;by_cases A6:j<I
            ·have CW:=AU.o.rows.row O (by rw[List.length_set,xW.o];exact Dg);rw[R5.o,List.getElem?_set_self (by rw[xW.o];exact Dg)]at CW;have Q:=AU.o.rows.row d (by rw[List.length_set,xW.o];exact yJ);rw[Zo.o,List.getElem?_set_ne e7,ZP.o]at Q;obtain⟨b,off,he,RD⟩:=CW.ints.at A6;simp only[Option.some.injEq,Addr.mk.injEq,and_true]at he;obtain⟨rfl,rfl⟩:=he;rw[Nat.zero_add,Option.getD_some,ru B4.o (by rw[Ak.o.1];exact A6)]at RD;obtain⟨b,off,he,RH⟩:=Q.ints.at A6;simp only[Option.some.injEq,Addr.mk.injEq,and_true]at he;obtain⟨rfl,rfl⟩:=he;rw[Nat.zero_add]at RH;obtain⟨b,off,he,FZ⟩:=Q.ints.at Nl;simp only[Option.some.injEq,Addr.mk.injEq,and_true]at he;obtain⟨rfl,rfl⟩:=he;rw[Nat.zero_add,<-Ed.o]at FZ;obtain⟨g',Fy,_,CX,_⟩:=CW.block A6;simp only[Option.some.injEq,Addr.mk.injEq,and_true]at Fy;subst Fy;have hfj:=CX j;have hbc5:=cell_of_one DU.o;obtain⟨rj,PS⟩:=b9 (r[j]?.getD 0);obtain⟨pj,AP⟩:=b9 (p[j]?.getD 0);rw[<-PS]at RD;rw[<-AP]at RH;have h3:=(fi d e7).2.1;have xL:=fA (B:=32768) (x:=rj) (y:=pc) (j1 (Ak.o.2 j)) (j1 (Ak.o.2 j)) (by have:=Em.o.2 c;have:=Ed.o;omega) (by have:=Em.o.2 c;have:=Ed.o;omega)
             have wU:=fA (B:=32768) (x:=rc) (y:=pj) (by have:=Ak.o.2 c;have:=Gk.o;omega) (by have:=Ak.o.2 c;have:=Gk.o;omega) (j1 (Em.o.2 j)) (j1 (Em.o.2 j));have DG:IntKind.i64.wrap (rj*pc)=rj*pc:=by rw[IntKind.wrap_i64];omega
             have AM:IntKind.i64.wrap (rc*pj)=rc*pj:=by rw[IntKind.wrap_i64];omega
             have DF:IntKind.i64.wrap (rj*pc-rc*pj)=rj*pc-rc*pj:=by rw[IntKind.wrap_i64];omega
             have HV:=ae (show rj*pc-rc*pj=U[j]?.getD 0 by rw[Fl.o,gG (by rw[Ak.o.1];exact A6),PS,AP,Ed.o,Gk.o]);have SF:vu (rj*pc-rc*pj):=by unfold vu;omega
             have Tw:vu gv:=by unfold vu;omega
             have Zm:=ae SF;have Z':=ae Tw;clear CW Q PS AP xL wU h3 SF Tw CX Tt;go_wp2_with fail
             go_still_tail 19,e9
             change wpList _ _ _ _ _ Oa.drew;go_wp2_with fail;refine(iN gv (rj*pc-rc*pj) _ Z'.o Zm.o).mono ?_;rintro e w7 ⟨rfl,hd⟩;have wq:=((AU.o.ext (Ext.drew Oa)).Ck Dg R5.o j (rj*pc-rc*pj)).ext hd.ext;rw[HV.o,oh (by rw[xW.o];exact Dg) B4.o (by rw[Ak.o.1];exact A6)]at wq;have GU:=ae wq;have QU:=ae (Ext.trans (Below.setCell (p:=⟨gt,j,none⟩) (Hq.o.trans (Ext.drew Oa)) Is (.int .i64 (rj*pc-rc*pj))) hd.ext)
             have BE:=ae (show w7.heap[E.heap.size]?=some (.cells #[.int .i64 (c:Int)] 3 (0,0))by
              have hne:E.heap.size≠gt:=by have:=FE.o.1;omega
              have h0:(Oa.drew.setCell ⟨gt,j,none⟩ (.int .i64 (rj*pc-rc*pj))).heap[E.heap.size]?=some (.cells #[.int .i64 (c:Int)] 3 (0,0)):=by
               rw[heap_setCell_other _ _ _ _ hne];exact DU.o
              exact(hd.ext.block _ (lt_of_block h0)).trans h0)
             have Z8:=ae (show gI gv (rj*pc-rc*pj)=(U.take (j+1)).foldl gI 0 by
              rw[cH (by rw[B4.o,Ak.o.1];exact A6),List.foldl_append,<-CQ.o,<-HV.o];rfl)
             clear wq hd DG AM DF;go_wp2_with fail
             go_roundg (g5-1)
             case measure=>have:=HJ.o;omega
             case rel=>exact⟨j+1,_,ae (j1 HJ.o),by go_num,rfl,Z8,GU,QU,BE⟩
            ·have E8:j=I:=by have:=HJ.o;omega
             have HGF:=ae (show max gv 1=max (zI U) 1 by rw[CQ.o,List.take_of_length_le (by rw[B4.o,Ak.o.1];omega)];rfl);have ZR:=ae (show Az U r j=U by rw[E8,<-Ak.o.1,<-B4.o,pA B4.o]);rw[ZR.o]at AU;subst E8;obtain⟨F,hF⟩:∃F:Int->Int,F=fun x=>x.tdiv (max gv 1):=⟨_,rfl⟩
             have EG:=ae (show(U.map F).length=U.length by simp);have HFS:=ae (show Mt.set O (U.map F)=xY bJ c M1 d (O+1)by rw[hF,HGF.o];exact Ut.o);have L7:=ae hF;clear hF;by_cases BV:1<=gv
             case' pos =>
              have HD:=ae (show∀y,F y=y.tdiv gv by intro y;rw[L7.o];simp only;congr 1;omega);have hgv':¬gv<1:=by omega
              have hM:max gv 1=gv:=by omega
              have DL:(gv == 0)=false:=by simp;omega
             case' neg =>
              have Yc:gv=0:=by omega
              subst Yc;have hM:max (0:Int) 1=1:=by omega
              have HD:=ae (show∀y,F y=y by intro y;rw[L7.o];simp only;rw[show max (0:Int) 1=1 by omega,Int.tdiv_one])
             all_goals
              go_wp2_with fail
              go_loopg [131] j (fun gk ii wr=>∃i:Nat,b7 (gk+i=j)/\ii=.int .i64 (i:Int)/\b7 (zd wr w.heap.size (some ⟨G,0,none⟩) J p1 Z (Mt.set O (Az (U.map F) U i)))/\b7 (Ext w wr)/\b7 (wr.heap[E.heap.size]?=some (.cells #[.int .i64 (c:Int)] 3 (0,0))))
              case atStart=>exact⟨0,ae e7,rfl,ae (by rw[nz];exact AU.o),Hq,DU⟩
              case round =>
               obtain⟨g6,YQ⟩:=b9 gk;subst YQ;obtain⟨wr6,TO⟩:=b9 wr;subst TO;obtain⟨i,Z5,rfl,NU,Uj,Vh⟩:=hrel;by_cases Hg:i<j
               ·have CW:=NU.o.rows.row O (by rw[List.length_set,xW.o];exact Dg);rw[R5.o,List.getElem?_set_self (by rw[xW.o];exact Dg),Option.getD_some]at CW;have hlen:=CW.ints.hlen;obtain⟨b,off,he,hyi⟩:=CW.ints.at Hg;simp only[Option.some.injEq,Addr.mk.injEq,and_true]at he;obtain⟨rfl,rfl⟩:=he;rw[Nat.zero_add,ru EG.o (by rw[B4.o,Ak.o.1];exact Hg)]at hyi;obtain⟨g',Fy,_,CX,_⟩:=CW.block Hg;simp only[Option.some.injEq,Addr.mk.injEq,and_true]at Fy;subst Fy;have hfi:=CX i;obtain⟨yv,DD⟩:=b9 (U[i]?.getD 0);rw[<-DD]at hyi;have Dd:=HBM.o i;rw[<-DD]at Dd;obtain⟨hyb1,hyb2⟩:=Dd;have L6:=ae (show F yv=(U.map F)[i]?.getD 0 by rw[DD];simp[B4.o,Ak.o.1,Hg]);rw[HD.o]at L6;have WK:∀g:Int,IntKind.i64.wrap (yv.tdiv g)=yv.tdiv g:=by
                 intro g;have h2:(yv.tdiv g).natAbs<=yv.natAbs:=by rw[Int.natAbs_tdiv];exact Nat.div_le_self _ _
                 rw[IntKind.wrap_i64];omega
                first|have hw:=WK gv|skip
                clear CW CX DD hlen WK;go_wp2_with fail
                go_roundg (g6-1)
                case measure=>have:=Z5.o;omega
                case rel =>
                 refine⟨i+1,ae (j1 Z5.o),by go_num,ae ?_,ae (Below.setCell (p:=⟨gt,i,none⟩) Uj.o Is _),ae ?_⟩
                 ·rw[<-oh (m:=U.map F) (r:=U) (j:=i) (by rw[xW.o];exact Dg) EG.o (by rw[B4.o,Ak.o.1];exact Hg),<-L6.o];exact NU.o.Ck Dg R5.o i _
                 ·have hne:E.heap.size≠gt:=by have:=FE.o.1;omega
                  rw[heap_setCell_other _ _ _ _ hne];exact Vh.o
               ·have Tr:i=j:=by have:=Z5.o;omega
                have ZS:=ae (show Mt.set O (Az (U.map F) U i)=xY bJ c M1 d (O+1)by
                 rw[<-HFS.o,show i=(U.map F).length by rw[EG.o,B4.o,Ak.o.1];exact Tr,pA EG.o])
                rw[ZS.o]at NU;subst Tr;go_wp2_with fail
                go_roundg (g4-1)
                case measure=>have:=HT.o;omega
                case rel=>exact⟨t+1,ae (j1 HT.o),by go_num,ae (by rw[show d+1+(t+1)=O+1 by have:=GO.o;omega];exact NU.o),Uj,Vh⟩
         ·have JW:d+1+t=J:=by have:=HT.o;omega
          have LR:=ae JW;have htE2:t=J-(d+1):=by omega
          rw[JW]at BL;clear JW;go_wp2_with fail
          go_roundg (g3-1)
          case measure=>have:=U3.o;omega
          case rel=>exact⟨c+1,d+1,Z,_,ae (j1 U3.o),by go_num,by go_num,CN,BL,xO⟩
      ·rw[if_neg BW]at Ej
       have CN:=ae (show runM bJ M (c+1)=(K,d)by
        show yQ bJ c (runM bJ M c)=_;rw[NQ.o];unfold yQ;simp only
        rw[<-HP.o,xX.o,if_neg BW])
       by_cases hpd:p1=d
       case' pos=>subst hpd;rw[if_pos rfl,show J-p1=0 by omega,Nat.sub_self]at Ej
       case' neg=>rw[if_neg hpd]at Ej
       all_goals
        go_wp2_with fail
        (with_reducible refine Ej.o.mono ?_)
        rintro e w5 ⟨rfl,wX⟩;have AH:=ae ((vk.o.trans (Ext.alloc _ _)).trans wX);have AU:=ae ((HM.o.ext (Ext.alloc E (.cells #[.int .i64 (c:Int)] 3))).ext wX);clear wX F8;go_wp2_with fail
        go_roundg (g3-1)
        case measure=>have:=U3.o;omega
        case rel=>exact⟨c+1,_,vs,K,ae (j1 U3.o),by go_num,rfl,CN,AU,AH⟩
     ·have Yz:c=I:=by have:=U3.o;omega
      subst Yz;go_wp2_with fail;go_ret;exact⟨aD (by rw[HN.o,NQ.o]),vk.o⟩
end Go.Proofs.YtdadoignenffgaaGreatDoor
