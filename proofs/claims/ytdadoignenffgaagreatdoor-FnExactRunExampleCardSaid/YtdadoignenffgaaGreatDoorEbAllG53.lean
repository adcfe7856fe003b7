import Derived.Test.YtdadoignenffgaaGreatDoorEbAllG12
import Derived.Test.YtdadoignenffgaaGreatDoorEbAllG10
import Derived.Test.YtdadoignenffgaaGreatDoorEbAllG52
import Derived.Test.YtdadoignenffgaaGreatDoorEbAllG50
set_option linter.unusedVariables false
set_option linter.unusedSimpArgs false
namespace Go.Proofs.YtdadoignenffgaaGreatDoor
variable{w:World}
set_option maxHeartbeats 16000000
set_option maxRecDepth 100000
open Go.RowKit
theorem tB{p:Int}{a:j6}{n cap:Nat}{V:j7}(h:Ints w a n cap V):
 Calls Tryz.prog 46 #[pair p a n cap] w fun e w'=>ZF w' e (cV p.toNat n) (dk p.toNat) (bG V) (aL p V)/\Ext w w':=by
 obtain⟨W,hW⟩:=b9 ((w.alloc (.cells #[.int .i64 p,.slice a n cap] 32)).alloc (.cells #[.slice none 0 0,.slice none 0 0,.slice none 0 0] 68));have Q:=ae (show W.heap.size=w.heap.size+2 by rw[hW];simp);have y7:=ae (show Ext w W by rw[hW];exact(Ext.alloc _ _).trans (Ext.alloc _ _));have IE:=ae (show W.cell? ⟨w.heap.size,1,none⟩=some (.slice a n cap)by rw[hW];simp);have ID:=ae (show W.cell? ⟨w.heap.size,0,none⟩=some (.int .i64 p)by rw[hW];simp);have PC:=ae (show W.heap[w.heap.size+1]?=some (.cells #[.slice none 0 0,.slice none 0 0,.slice none 0 0] 68 (0,0))by rw[hW];exact ai _ _ _ e8);obtain⟨WG,OW⟩:=b9 (w.alloc (.cells #[.int .i64 p,.slice a n cap] 32));have HXG:=ae (show Ext WG W by rw[hW,OW];exact Ext.alloc _ _);have L7:=ae (show WG.heap.size=w.heap.size+1 by rw[OW];simp);have HG0:=ae (show WG.cell? ⟨w.heap.size,0,none⟩=some (.int .i64 p)by rw[OW];simp);have JQ:=ae (show WG.cell? ⟨w.heap.size,1,none⟩=some (.slice a n cap)by rw[OW];simp);clear OW;have AM:=ae h.hlen;have Jq:=h.l8;have Jp:=h.l9;have FQ:=ae (h.ext y7.o);have HC:=ae (es (p:=p) (h.ext y7.o));have G8:(w.heap.size+1)<W.heap.size:=by rw[Q.o];omega
 have zF:=ae (fun(w':World) (hx:Ext W w')=>(hx.block _ G8).trans PC.o);clear h G8;cases hg:aL p V
 ·rw[hg,hW]at HC;clear hg;go_enter Tryz.func46,Tryz.ntmps46
  go_wp2_with fail;refine HC.o.mono ?_;rw[<-hW];rintro e w1 ⟨rfl,O⟩;have A':=zD.BK (zF.o w1 O);have AX:=zD.BJ (zF.o w1 O);have B9:=zD.BI (zF.o w1 O);have GA:=zD.Cw (zF.o w1 O);have yZ:=ae O;clear O;go_wp2_with fail;refine bR (v:=.tuple #[.agg #[.slice none 0 0,.slice none 0 0,.slice none 0 0],.bool false]) (by simp[results,Tryz.results46,go_sem,A',AX,B9]) rfl ⟨⟨none,0,0,none,0,0,none,0,0,rfl,fun h=>Bool.noConfusion h⟩,(((y7.o.trans yZ.o).store 0 e7 _).store 1 e7 _).store 2 e7 _⟩
 ·obtain⟨q,rfl,h1,h5,hlen,_,A4⟩:=bQ hg;have hq:=bP q h5;have Ft:n<=32:=by rw[<-AM.o,hlen];omega
  have B1:1<=n:=by rw[<-AM.o,hlen];omega
  have Eg:=ae A4;have CV:=ae (show(bG V).length=n-1 by unfold bG;simp[AM.o]);rw[hg,hW]at HC;clear hg hlen A4 hq;go_enter Tryz.func46,Tryz.ntmps46
  go_wp2_with fail;refine HC.o.mono ?_;rw[<-hW];clear hW;rintro e w1 ⟨rfl,O⟩;have DF:=O.size;rw[Q.o]at DF;have yZ:=ae O;have I':=ae (zD.new (w:=w1) (base:=w.heap.size+2) DF);obtain⟨g,JB⟩:=b9 w1.heap.size;obtain⟨E,hE⟩:=b9 (w1.alloc (.cells #[.slice none 0 0,.slice none 0 0,.slice none 0 0] 68));have Vx:=ae (show Ext W E by rw[hE];exact O.trans (Ext.alloc _ _));rw[<-JB,<-hE]at I';clear O HC;go_upto_region 4 with fail;rw[<-hE,<-JB];clear hE JB;go_wp2_with fail
  go_loopg [5] (n-1) (fun gk ii wr=>∃(k:Nat) (vc:Value),b7 (gk+k=n-1)/\ii=.int .i64 ((k+1:Nat):Int)/\b7 (zD wr (w.heap.size+2) g (.slice none 0 0) (.slice none 0 0) vc [] [] [] ((bG V).take k))/\b7 (Ext W wr))
  case atStart=>exact⟨0,_,ae e7,rfl,I',Vx⟩
  case round =>
   obtain⟨g1,o7⟩:=b9 gk;subst o7;obtain⟨o6,o5⟩:=b9 wr;subst o5;obtain⟨k,vc,HK,rfl,U,HX⟩:=hrel;have hsz:=HX.o.size;rw[Q.o]at hsz;have OH:=HX.o.j9 IE.o;by_cases hlt:k+1<n
   ·obtain⟨eb,zl,DT,AV⟩:=(FQ.o.ext HX.o).at hlt;subst DT;obtain⟨v,hv⟩:=b9 (V[k+1]?.getD 0);have A4:-500<=v/\v<=500:=by
     rw[hv,bk (by rw[AM.o];exact hlt),l'];exact Eg.o _ (vl _)
    rw[<-hv]at AV
    have PE:=ae (show W.cell? ⟨eb,zl+(k+1),none⟩=some (.int .i64 v)by
     obtain⟨eb',Zu,OG,UP⟩:=FQ.o.at hlt;simp only[bA,mq,zz]at OG;obtain⟨rfl,rfl⟩:=OG
     rw[hv];exact UP)
    have Bw:=ae (oh AM.o hlt hv.symm);have Kj:IntKind.i64.wrap (-v)=-v:=by rw[cn];omega
    have Fu:(0:Int)<=((k+1:Nat):Int):=by omega
    have BR:((k+1:Nat):Int)<(n:Int):=by omega
    have S1:IntKind.i64.wrap (((k+1:Nat):Int)+1)=((k+1+1:Nat):Int):=by rw[cn];omega
    have k7:(0:Int)<=(k:Int)+1:=by omega
    have EY:(k:Int)+1<(n:Int):=by omega
    have hk4:((k:Int)+1).toNat=k+1:=by omega
    have GH:=ae (show((bG V).take k).length=k by rw[FX,CV.o];omega);have t2:=U.o.c2;clear hv;have k8:=ae (fun(w':World) (h:Ext o6 w')=>(⟨h.j9 t2,h.j9 OH,h.j9 AV,HX.o.trans h⟩:w'.cell? ⟨g,2,none⟩=some vc/\w'.cell? ⟨w.heap.size,1,none⟩=some (.slice (some ⟨eb,zl,none⟩) n cap)/\w'.cell? ⟨eb,zl+(k+1),none⟩=some (.int .i64 v)/\Ext W w'));have J:Ext o6 o6.drew:=Ext.drew o6;go_upto_region 7 with fail;refine dD (M:=[12]) (S:=fun w'=>w'.cell? ⟨g,2,none⟩=some vc/\w'.cell? ⟨w.heap.size,1,none⟩=some (.slice (some ⟨eb,zl,none⟩) n cap)/\w'.cell? ⟨eb,zl+(k+1),none⟩=some (.int .i64 v)/\Ext W w') e9 ?_;have l7:=k8.o _ J;obtain⟨wd,hwd⟩:=b9 o6.drew;rw[<-hwd]at J l7;rw[<-hwd];clear hwd;have Rt:=J.size;refine lp 0 ?_;refine ll 1 ?_;refine lp 2 ?_;refine ll 3 ?_;refine lp 4 ?_;refine lp 5 ?_;refine ll 6 ?_;refine lp 7 ?_;refine bg (i:=8) (oi:=?_) ?_ ?_ ?_ (fun K hK=>?_);rotate_left
    ·simp only[gA,gB,gC];rfl
    ·kernel_rfl
    ·kernel_rfl
    go_simp;go_at_call 49;refine(cO _ _).mono ?_;rintro e w3 ⟨rfl,zm⟩;have J:Ext o6 w3:=J.trans zm;have F6:=J.size;go_wp2_with fail;refine hK.out _ _ (fun _=>k8.o _ J) ?_;have l7:=k8.o _ J;clear hK K
    try simp only[Act.put,sA,sB,sC]
    refine bg (i:=9) (oi:=?_) ?_ ?_ ?_ (fun K hK=>?_);rotate_left
    ·simp only[gA,gB,gC];rfl
    ·kernel_rfl
    ·kernel_rfl
    go_simp;refine hK.out _ _ (fun _=>k8.o _ (J.trans (Ext.alloc _ _))) ?_;clear hK K
    try simp only[Act.put,sA,sB,sC]
    refine bg (i:=10) (oi:=?_) ?_ ?_ ?_ (fun K hK=>?_);rotate_left
    ·simp only[gA,gB,gC];rfl
    ·kernel_rfl
    ·kernel_rfl
    refine dr _ _ j0 (w.heap.size+2) vc _ j0 ((U.o.c.ext J).ext (Ext.alloc _ _)) _ 1 _ [(-v,1)] j0 (Rats.one' _ _ _ _ _ rfl) (by rw[GH.o];omega) (by simp;omega) ?_;intro v6 w6 ho S6 k9;obtain⟨a6,n6,q6,rfl,H'⟩:=ho.var;have HP6:=ae (U.o.SJ (J.trans (Ext.alloc _ _)) S6 ho);have hb6:=U.o.Zz (J.trans (Ext.alloc _ _)) S6;have c26:=zD.BI hb6;have cf6:=zD.Cw hb6;have Z:Ext W w6:=ak ((HX.o.trans J).trans (Ext.alloc _ _)) S6 (fun j hj=>by rw[Q.o];exact(U.o.c.lt j hj).1);clear ho S6 k9 hb6;refine hK.out _ _ (fun _=>JH c26 (JH (Z.j9 IE.o) (JH (Z.j9 PE.o) Z))) ?_;have l7:=JH c26 (JH (Z.j9 IE.o) (JH (Z.j9 PE.o) Z));clear hK K
    try simp only[Act.put,sA,sB,sC]
    refine lp 11 ?_;refine dM (i:=12) (oi:=?_) (w':=?_) ?_ ?_ ?_ ?_ ?_ ?_ ?_;rotate_left 2
    ·simp only[gA,gB,gC];rfl
    ·kernel_rfl
    ·kernel_rfl
    ·exact EE e9
    ·rfl
    ·go_simp;(try with_reducible rfl)
    try simp only[Act.put,sA,sB,sC]
    refine dV e9 ?_ _;have GG:=ae (Z.setCell (p:=⟨g,2,none⟩) (by rw[Q.o];exact U.o.hg) (.slice a6 n6 q6));obtain⟨W9,Hd⟩:=b9 (w6.setCell ⟨g,2,none⟩ (.slice a6 n6 q6));rw[<-Hd]at HP6 GG;go_upto_region 6 with fail;rw[<-Hd];clear Hd c26 cf6 l7 J Z t2;go_wp2_with fail
    go_roundg (g1-1)
    case measure=>have:=HK.o;omega
    case rel=>exact⟨k+1,_,ae (j1 HK.o),by go_num,ae (by rw[<-Bw.o];exact HP6.o),GG⟩
   ·have hT:(bG V).take k=bG V:=p4 (by rw[CV.o];omega);rw[hT]at U;have hcp0:=HX.o.j9 ID.o;obtain⟨aC,nC,cC,rfl,HNC⟩:=U.o.c.var;have Ah:¬((k:Int)+1)<(n:Int):=by omega
    obtain⟨L,hL⟩:=b9 (BY 1 (n-1));have AN:=ae (show L.length=n-1 by rw[hL];simp[BY])
    have CG:=ae (fun(j:Nat) (hj:j<n-1)=>show L[j]?.getD 0=(j:Int)+1 by
     rw[hL,bk (by simp[BY];exact hj)]
     simp[BY];omega)
    have MA:=ae hL;clear hT hL;go_wp2_with fail
    go_loopg [6] q (fun gk ii wr=>∃(k:Nat) (va vb:Value) (vs:List Value),b7 (gk+k=q)/\ii=.int .i64 (k:Int)/\b7 (zD wr (w.heap.size+2) g va vb (.slice aC nC cC) vs (A9 k L) (List.replicate k 1) (bG V))/\b7 (Ext W wr))
    case atStart=>exact⟨0,_,_,[],ae e7,rfl,U,HX⟩
    case round =>
     obtain⟨g2,Am⟩:=b9 gk;subst Am;obtain⟨G,zx⟩:=b9 wr;subst zx;obtain⟨k,va,vb,vs,KM,rfl,I,zt⟩:=hrel;have D4:=zt.o.size;rw[Q.o]at D4;have F7:=zt.o.j9 ID.o;have G9:=zt.o.j9 IE.o;by_cases hkq:k<q
     ·have Z3:=ae (o4.Az G G.heap.size _ rfl (ao _));have hkqi:(k:Int)<(q:Int):=by omega
      go_wp2_with fail
      go_loopg [7,8] (n-1) (fun gk row ii wr=>∃(j:Nat) (a2:j6) (n2 p2:Nat),b7 (gk+j=n-1)/\ii=.int .i64 ((j+1:Nat):Int)/\row=.slice a2 n2 p2/\b7 (o4 wr G.heap.size (.slice a2 n2 p2) (AQ (L.take j) k))/\b7 (Ext G wr))
      case atStart=>exact⟨0,_,_,_,ae e7,rfl,rfl,Z3,ae (Ext.alloc _ _)⟩
      case round =>
       obtain⟨g3,D8⟩:=b9 gk;subst D8;obtain⟨wr3,B4⟩:=b9 wr;subst B4;obtain⟨j,a2,n2,p2,HJ,rfl,rfl,HO,zk⟩:=hrel;have Fs:=zk.o.size;have Ux:=zk.o.j9 G9;by_cases Ca:j+1<n
       ·have hjw:IntKind.i64.wrap (((j+1:Nat):Int)+1)=((j+1+1:Nat):Int):=by rw[cn];omega
        have hjl2:(j:Int)+1<(n:Int):=by omega
        obtain⟨hb,hhb⟩:=b9 (BC ((j:Int)+1) (k:Int));have Sr:=ae (fun w'=>cw ((j:Int)+1) (k:Int) w' e7);simp only[<-hhb]at Sr;have Md:=ae (fun w'=>fk hb w');have Bw:=ae (lv (l:=L) (j:=j) (k:=k) (b:=hb) (by rw[AN.o];omega) (by rw[CG.o j e7];exact hhb.symm));have Br:=ae (show(AQ (L.take j) k).length=j by simp only[AQ,zo,FX];rw[AN.o];omega);obtain⟨bt,J2⟩:=b9 (zA hb);rw[<-J2]at Bw;simp only[<-J2]at Md;clear hhb J2
        go_wp2_with (first
         | (go_at_call 40;refine(Sr.o _).mono ?_;rintro e w4 ⟨rfl,rfl⟩)
         | (go_at_call 104;refine(Md.o _).mono ?_;rintro e w4 ⟨rfl,rfl⟩)
         | (at_builtin;refine bu rfl _ _ rfl G.heap.size (.slice a2 n2 p2) _ rfl (HO.o.ext (Ext.alloc _ _)) _ 1 _ [bt] rfl (Ints.CL _ _ _ _ e8) (by rw[Br.o];omega) (by simp;omega) ?_;intro v5 w5 ho hg5 k9;have X5:=ae (ak (zk.o.trans (Ext.alloc _ _)) hg5 (fun i hi=>(HO.o.lt i hi).1));obtain⟨a5,n5,c5,rfl,CF⟩:=ho.var;have zW:=ae ho;clear ho hg5 k9))
        go_roundg (g3-1)
        case measure=>have:=HJ.o;omega
        case rel=>exact⟨j+1,a5,n5,c5,ae (j1 HJ.o),by go_num,rfl,ae (by rw[<-Bw.o];exact zW.o),X5⟩
       ·have hjl2:¬((j:Int)+1)<(n:Int):=by omega
        have hTL:L.take j=L:=p4 (by rw[AN.o];omega);rw[hTL]at HO;have HMS:=ae (qF k L);have AM:=ae (show vs.length=k by rw[I.o.rows.len];simp[A9]);have Sm:=ae (I.o.ext zk.o);have t0:=Sm.o.c0;have bf:=Sm.o.free;clear hTL
        go_upto_region 17 with(first
         | (at_builtin;refine fu rfl _ _ rfl (w.heap.size+2) va vs rfl (Sm.o.a.ext (Ext.alloc _ _)) _ _ 1 rfl (by simp;rfl) rfl (by rw[AM.o];omega) (by simp;omega) ?_;intro v6 w6 ho hg k9;have IM:=ae (I.o.FV (zk.o.trans (Ext.alloc _ _)) (HO.o.ext (Ext.alloc _ _)) e7 hg ho k9);have Fi:=Sm.o.Kz (Ext.alloc _ _) hg;have WC:=zD.BK Fi;have hf6:=zD.Cw Fi;have X6:=ae ((((zt.o.trans zk.o).trans (Ext.alloc _ _)).grown hg (fun j hj=>by rw[Q.o];exact(I.o.a.lt j hj).1)).store (b:=g) 0 (by rw[Q.o];exact I.o.hg) v6);obtain⟨a6,n6,p6,rfl,H'⟩:=ho.var;clear ho hg k9 Fi))
        obtain⟨W6,hW6⟩:=b9 (w6.setCell ⟨g,0,none⟩ (.slice a6 n6 p6));rw[<-hW6]at IM X6;rw[<-hW6];clear hW6 WC hf6 t0 bf;have t1:=IM.o.c1;have bf:=IM.o.free;have hgl6:=IM.o.lt;have E8:=ae (show Ext W W6 from X6.o);have hs6:=E8.o.size;rw[Q.o]at hs6
        go_wp2_with (first
         | (at_builtin;refine bu rfl _ _ rfl (w.heap.size+2) vb _ rfl (IM.o.b.ext (Ext.alloc _ _)) _ 1 _ [1] rfl (Ints.CL _ _ _ _ e8) (by simp;omega) (by simp;omega) ?_;intro v9 w9 ho Ql k9;have Xe:=ae (IM.o.pushB (Ext.alloc _ _) Ql ho k9);have BH:=IM.o.LI (Ext.alloc _ _) Ql;have c09:=zD.BJ BH;have WO:=zD.Cw BH;have X9:=ae (((E8.o.trans (Ext.alloc _ _)).grown Ql (fun j hj=>by rw[Q.o];exact(IM.o.b.lt j hj).1)).store (b:=g) 1 (by rw[Q.o];exact I.o.hg) v9);obtain⟨a9,n9,q9,rfl,PS⟩:=ho.var;clear ho Ql k9 BH))
        go_roundg (g2-1)
        case measure=>have:=KM.o;omega
        case rel=>exact⟨k+1,_,_,_,ae (j1 KM.o),by go_num,ae (by have h1:=Xe.o;rw[HMS.o,<-aaA]at h1;exact h1),X9⟩
     ·have hkq2:q=k:=by have:=KM.o;omega
      have hnk:¬(k:Int)<(q:Int):=by omega
      subst hkq2;obtain⟨aA,nA,cA,rfl,Tw⟩:=I.o.a.var;obtain⟨aB,nB,cB,rfl,IK⟩:=I.o.b.var;have t0:=I.o.c0;have t1:=I.o.c1;have t2:=I.o.c2;have B2:=I.o.hg;have Ds:=zF.o G zt.o;have A':=zD.BK Ds;have AX:=zD.BJ Ds;have B9:=zD.BI Ds;have GA:=zD.Cw Ds;have S2:∀j,w.heap.size+2<=j->(((G.setCell ⟨w.heap.size+1,0,none⟩ (.slice aA nA cA)).setCell ⟨w.heap.size+1,1,none⟩ (.slice aB nB cB)).setCell ⟨w.heap.size+1,2,none⟩ (.slice aC nC cC)).heap[j]?=G.heap[j]?:=fun j BR=>by
       rw[bB _ _ _ _ (show j≠w.heap.size+1 by omega),bB _ _ _ _ (show j≠w.heap.size+1 by omega),bB _ _ _ _ (show j≠w.heap.size+1 by omega)]
      clear Ds;go_wp2_with fail;refine bR (v:=.tuple #[DD aA nA cA aB nB cB aC nC cC,.bool true]) (by simp[results,Tryz.results46,go_sem,A',AX,B9]) rfl ⟨⟨aA,nA,cA,aB,nB,cB,aC,nC,cC,rfl,fun _=>⟨?_,?_,?_⟩⟩,(((y7.o.trans zt.o).store 0 e7 _).store 1 e7 _).store 2 e7 _⟩
      ·have h0:dt G (w.heap.size+2) (.slice aA nA cA) (A9 q L):=⟨vs,I.o.a,I.o.rows⟩;rw[MA.o]at h0;exact dt.Hs (h0.on _ fun j h1 _=>S2 j h1)
      ·exact(I.o.b.on _ fun j h1 _=>S2 j h1).ints
      ·exact(I.o.c.keep fun j h1=>S2 j (I.o.c.lt j h1).1).zj
theorem yd{Y:j4}{k:Nat}(h:k<Y.length):(Y.take k).map ze++[ze (Y[k]?.getD (0,0))]=(Y.take (k+1)).map ze:=by rw[gN h,We];rfl
theorem ix{w':World}{b:Nat}(h:w'.heap[b]?=w.heap[b]?)(o:Nat):w'.cell? ⟨b,o,none⟩=w.cell? ⟨b,o,none⟩:=by simp only[World.cell?,h]
theorem wS{p:Int}{a:j6}{n cap:Nat}{V:j7}(h:Ints w a n cap V):
 Calls Tryz.prog 19 #[pair p a n cap] w fun e w'=>CoR w' w.heap.size e (eL (aL p V) (bY p V) (bD ar (cV p.toNat n) (dk p.toNat) (bG V))) (Wf (bY p V) (bD ar (cV p.toNat n) (dk p.toNat) (bG V)))/\Ext w w':=by
 obtain⟨W,hW⟩:=b9 ((w.alloc (.cells #[.int .i64 p,.slice a n cap] 32)).alloc (.cells #[.int .i64 0,.slice none 0 0,.slice none 0 0] 39));have FL:W.heap.size=w.heap.size+2:=by rw[hW];simp
 have hX:Ext w W:=by rw[hW];exact(Ext.alloc _ _).trans (Ext.alloc _ _)
 have zF:=ae (show W.heap[w.heap.size+1]?=some (.cells #[.int .i64 0,.slice none 0 0,.slice none 0 0] 39 (0,0))by rw[hW];exact ai _ _ _ e8);have EC:=ae (show W.cell? ⟨w.heap.size,0,none⟩=some (.int .i64 p)by rw[hW];exact Ext.j9 (Ext.alloc _ _) e8);have EN:=ae (show W.cell? ⟨w.heap.size,1,none⟩=some (.slice a n cap)by rw[hW];exact Ext.j9 (Ext.alloc _ _) e8);have HI:=ae (h.ext hX);have HX:=ae hX;have EI:=ae (tB (p:=p) HI.o);obtain⟨g,Fh⟩:=b9 (bY p V);obtain⟨r,A'⟩:=b9 (bD ar (cV p.toNat n) (dk p.toNat) (bG V));have HG:=ae Fh;have C0:=ae A';rw[<-Fh,<-A'];have Bc:=ae (fun(w':World) (hx:Ext W w') (code:Int) (x1 x2:Value)=>uT (w:=w) ((hx.block _ e7).trans zF.o) (HX.o.trans hx) (Cj _) (.int .i64 code) x1 x2);have Gq:=ae (fun(w':World) (hx:Ext W w')=>jY ((hx.block _ e7).trans zF.o));clear h hX Fh A';cases hgo:aL p V
 ·rw[hgo]at EI;have HC:=ae (show eL false g r=0 from rfl);clear hgo;go_enter Tryz.func19,Tryz.ntmps19
  go_wp2_with fail;rw[<-hW];refine EI.o.mono ?_;rintro e w1 ⟨⟨la,GP,GS,lb,GO,GR,lc,GN,GQ,rfl,_⟩,hx⟩;unfold DD;obtain⟨w2,Ch⟩:=b9 (w1.alloc (bj la GP GS lb GO GR lc GN GQ));have X2:Ext W w2:=by rw[Ch];exact hx.trans (Ext.alloc _ _)
  obtain⟨q0,q1,q2,qf⟩:=Gq.o w2 X2;obtain⟨z,z0,z1,z2,_⟩:=Bc.o w2 X2 0 (.slice none 0 0) (.slice none 0 0);have HZ:=ae z;go_upto_region 2 with fail;rw[<-Ch];clear hx Ch hW z;go_wp2_with fail;refine bR (v:=.agg #[.int .i64 0,.slice none 0 0,.slice none 0 0]) (by simp[results,abN,go_sem,z0,z1,z2]) rfl ⟨⟨_,_,_,_,_,_,by rw[HC.o],fun h=>by rw[HC.o]at h;cases h⟩,HZ.o⟩
 rw[hgo]at EI;have Tq:=ae (xy hgo (cV p.toNat n) (dk p.toNat));obtain⟨q,zR,C4,EX,hVl,_,Qo⟩:=bQ hgo;have B2:-500<=g/\g<=500:=by rw[HG.o,ig hgo];exact iU Qo _
 have Ay:=ae zR;clear hgo hVl Qo zR;go_enter Tryz.func19,Tryz.ntmps19
 go_wp2_with fail;rw[<-hW];refine EI.o.mono ?_;rintro e w1 ⟨⟨la,GP,GS,lb,GO,GR,lc,GN,GQ,rfl,Lz⟩,hx⟩;unfold DD;obtain⟨w2,Ch⟩:=b9 (w1.alloc (bj la GP GS lb GO GR lc GN GQ));have zJ:Ext w1 w2:=by rw[Ch];exact Ext.alloc _ _
 have X2:=ae (hx.trans zJ);have Gn:=ae (qY ((Lz rfl).ext zJ));rw[<-Tq.o,<-C0.o]at Gn;have hb3:w2.heap[w1.heap.size]?=some (.cells #[.slice la GP GS,.slice lb GO GR,.slice lc GN GQ] 68 (0,0)):=by rw[Ch];exact ai _ _ _ rfl
 have t0:=am hb3;have t1:=aD hb3;have t2:=aG hb3;go_upto_region 2 with fail;rw[<-Ch];clear hx zJ Lz Ch hW hb3;go_wp2_with fail;refine Gn.o.mono ?_
 have AT:=ae (fun(hs:r.status=1)=>show r.Y.length=q/\o9 r.value=true/\∀k,k<r.Y.length->o9 (r.Y[k]?.getD (0,0))=true by
  have:=gM (bound:=ar) (A:=cV p.toNat n) (B:=dk p.toNat) (C:=bG V) (by rw[<-C0.o];exact hs);rw[<-C0.o]at this;refine⟨?_,this.2.2.2.2⟩;rw[this.2.2.2.1];unfold dk
  rw[O5,Ay.o,CI])
 rintro e w3 ⟨⟨xa,xn,xc,ya,yn,yc,ra,rn,rc,rfl,DH⟩,zm⟩;obtain⟨U,IW⟩:=b9 (w3.alloc (bX r xa xn xc ya yn yc ra rn rc));have zX:Ext w3 U:=by rw[IW];exact Ext.alloc _ _
 have X4:=ae ((X2.o.trans zm).trans zX);have A1:=ae (DH.here.ext zX);have Ig:=ae (show U.heap[w3.heap.size]?=some (bX r xa xn xc ya yn yc ra rn rc)by rw[IW];exact ai _ _ _ rfl);obtain⟨rs,rX,J,rr,⟨zZ,zY⟩,rp⟩:=r;unfold CC;go_upto_region 5 with fail;rw[<-IW];clear DH zm zX IW t0 t1 t2;generalize w3.heap.size=b5 at Ig⊢;obtain⟨l0,l1,l2,l3,l4,l5,l6,lf⟩:=zN Ig.o
 try simp only at l0 l1 l2 l3 l4 l5 l6
 have Gv:=ae (fun(w':World) (hx:Ext W w')=>lz (p:=p) (HI.o.ext hx));simp only[<-HG.o]at Gv;have b0:=X4.o.j9 EC.o;have b1:=X4.o.j9 EN.o;obtain⟨s1,s2,one,JZ⟩:∃s1 s2 o,Ab (g,1) (zZ,zY)=((s1,s2),o):=⟨_,_,_,rfl⟩;have CS:=ae JZ;have Gp:=ae (show dX g ⟨rs,rX,J,rr,(zZ,zY),rp⟩=((s1,s2),one)from JZ);clear JZ;go_upto_region 5 with fail
 go_cut [6,7] (fun sx so wx=>∃g6:Nat,sx=.pointer (some ⟨g6,0,none⟩)/\so=.bool one/\b7 (ah U wx g6 s1 s2))
 case first =>
  have k7:Ext U U.drew:=Ext.drew U;have zw:Ext U (U.alloc (.cells #[.int .i64 0,.int .i64 0] 62)).drew:=(Ext.alloc _ _).trans (Ext.drew _);have k8:=ae (fun(w':World) (h:Ext U w')=>(⟨h.j9 b0,h.j9 b1,h.j9 l4,h.j9 l5,h⟩:w'.cell? ⟨w.heap.size,0,none⟩=some (.int .i64 p)/\w'.cell? ⟨w.heap.size,1,none⟩=some (.slice a n cap)/\w'.cell? ⟨b5,4,none⟩=some (.int .i64 zZ)/\w'.cell? ⟨b5,5,none⟩=some (.int .i64 zY)/\Ext U w'))
  go_region_held3 (fun w'=>w'.cell? ⟨w.heap.size,0,none⟩=some (.int .i64 p)/\w'.cell? ⟨w.heap.size,1,none⟩=some (.slice a n cap)/\w'.cell? ⟨b5,4,none⟩=some (.int .i64 zZ)/\w'.cell? ⟨b5,5,none⟩=some (.int .i64 zY)/\Ext U w')
   (first
     | with_reducible exact k8.o _ k7
     | with_reducible exact k8.o _ zw
     | with_reducible exact k8.o _ ((k7.setCell (by first|(simp;done)|(simp;omega)) _).setCell (by first|(simp;done)|(simp;omega)) _)
     | with_reducible exact k8.o _ (k7.trans (Ext.alloc _ _))
     | with_reducible exact k8.o _ (q8.put _ _).ext)
   (first
     | (go_at_call 50
        (with_reducible refine(Gv.o _ (X4.o.trans (by first|with_reducible exact k7|with_reducible exact zw|with_reducible exact k7.trans (Ext.alloc _ _)))).mono ?_)
        rintro e w5 ⟨rfl,zh⟩
        first|(with_reducible have q8:=ah.grow q8 zh)|(with_reducible have q8:=ah.zu zh)|(with_reducible have q8:=ah.zy k7 zh)|skip
        first|(have Dy:=q8.c0;have Dx:=q8.c1;have Ev:=q8.free)|skip
        have k7:Ext U w5:=by first|with_reducible exact k7.trans zh|with_reducible exact zw.trans zh|with_reducible exact(k7.trans (Ext.alloc _ _)).trans zh
        have A0:=k7.size)
     | (go_at_call 49
        (with_reducible refine(cO _ _).mono ?_)
        rintro e w6 ⟨rfl,Dq⟩
        first|(with_reducible have q8:=ah.grow q8 Dq)|(with_reducible have q8:=ah.zu Dq)|(with_reducible have q8:=ah.zy k7 Dq)|skip
        first|(have Dy:=q8.c0;have Dx:=q8.c1;have Ev:=q8.free)|skip
        have k7:Ext U w6:=by first|with_reducible exact k7.trans Dq|with_reducible exact zw.trans Dq|with_reducible exact(k7.trans (Ext.alloc _ _)).trans Dq
        have A0:=k7.size)
     | (go_at_call 48
        (with_reducible refine(je _ _ _ _ _).mono ?_)
        rw[CS.o];rintro e w7 ⟨rfl,zT⟩
        first|(with_reducible have q8:=ah.grow q8 zT)|(with_reducible have q8:=ah.zu zT)|(with_reducible have q8:=ah.zy k7 zT)|skip
        first|(have Dy:=q8.c0;have Dx:=q8.c1;have Ev:=q8.free)|skip
        have k7:Ext U w7:=by first|with_reducible exact k7.trans zT|with_reducible exact zw.trans zT|with_reducible exact(k7.trans (Ext.alloc _ _)).trans zT
        have A0:=k7.size)
     | fail)
  all_goals(go_wp2_with fail;go_meet;first|exact⟨_,rfl,rfl,ae (q8.put _ _)⟩|exact⟨_,rfl,rfl,ae (ah.new k7 _ _)⟩|exact⟨_,rfl,rfl,ae (ah.new' k7 _ _ e8)⟩)
 obtain⟨g6,rfl,rfl,Ie⟩:=hcut;have XC:=X4.o.trans Ie.o.ext;have E7:=ae XC;have P':=ae (Ie.o.ext.blk Ig.o);have ZI:=ae (A1.o.y.ext Ie.o.ext);have e0:=Ie.o.c0;have e1:=Ie.o.c1;clear l0 l1 l2 l3 l4 l5 l6 lf b0 b1;obtain⟨l0,l1,l2,l3,l4,l5,l6,lf⟩:=zN P'.o
 try simp only at l0 l1 l2 l3 l4 l5 l6
 by_cases hs:rs=1;rotate_left
 ·have HC:=ae (show eL true g ⟨rs,rX,J,rr,(zZ,zY),rp⟩=3 by unfold eL;rw[hD e8,hI hs]);have Ec:(rs != 1)=true:=by simp[hs]
  obtain⟨q0,q1,q2,qf⟩:=Gq.o wc XC;obtain⟨z,z0,z1,z2,Q⟩:=Bc.o wc XC 3 (.slice none 0 0) (.slice none 0 0);have HZ:=ae z;have GF:=ae Q;clear z Q;go_wp2_with fail;refine bR (v:=.agg #[.int .i64 3,.slice none 0 0,.slice none 0 0]) (by simp[results,abN,go_sem,z0,z1,z2]) rfl ⟨⟨_,_,_,_,_,_,by rw[HC.o],fun h=>by rw[HC.o]at h;cases h⟩,HZ.o⟩
 obtain⟨Jk,EV,Ht⟩:=AT.o hs
 try simp only at Jk EV Ht
 subst hs;have Vv:=ae Ht;have Hi:=ae Jk;clear EV Ht Jk;cases one
 ·have HC:=ae (show eL true g ⟨1,rX,J,rr,(zZ,zY),rp⟩=3 by unfold eL;rw[hD e8,hD e8,Gp.o];rfl);obtain⟨q0,q1,q2,qf⟩:=Gq.o wc XC;obtain⟨z,z0,z1,z2,Q⟩:=Bc.o wc XC 3 (.slice none 0 0) (.slice none 0 0);have HZ:=ae z;have GF:=ae Q;clear z Q;go_wp2_with fail;refine bR (v:=.agg #[.int .i64 3,.slice none 0 0,.slice none 0 0]) (by simp[results,abN,go_sem,z0,z1,z2]) rfl ⟨⟨_,_,_,_,_,_,by rw[HC.o],fun h=>by rw[HC.o]at h;cases h⟩,HZ.o⟩
 by_cases Du:s1<0
 ·have HC:=ae (show eL true g ⟨1,rX,J,rr,(zZ,zY),rp⟩=2 by unfold eL;rw[hD e8,hD e8,Gp.o];simp[Du]);obtain⟨q0,q1,q2,qf⟩:=Gq.o wc XC;obtain⟨z,z0,z1,z2,Q⟩:=Bc.o wc XC 2 (.slice none 0 0) (.slice xa xn xc);have HZ:=ae z;have GF:=ae Q;clear z Q;go_wp2_with fail;refine bR (v:=.agg #[.int .i64 2,.slice none 0 0,.slice xa xn xc]) (by simp[results,abN,go_sem,z0,z1,z2]) rfl ⟨⟨_,_,_,_,_,_,by rw[HC.o],fun h=>by rw[HC.o]at h;cases h⟩,HZ.o⟩
 have Em:yn=q:=by have h1:=ZI.o.hlen;have h2:=Hi.o;(try simp only at h1);omega
 have Qs:=ae Em;have hyn5:yn<=5:=by omega
 have Uc:=ZI.o.l8;have hym:=ZI.o.l9;clear Em;obtain⟨w8,Kk⟩:=b9 (wc.alloc (.cells #[.int .i64 1,.slice none 0 0,.slice none 0 0] 39));have SP:Ext wc w8:=by rw[Kk];exact Ext.alloc _ _
 have QJ:=ae (show w8.heap[wc.heap.size]?=some (.cells #[.int .i64 1,.slice none 0 0,.slice none 0 0] 39 (0,0))by rw[Kk];exact ai _ _ _ rfl);have LS:=ae (show w8.heap.size=wc.heap.size+1 by rw[Kk];simp);go_upto_region 11 with fail;rw[<-Kk];clear Kk;have hs8:=SP.size;have PB:=ae SP;obtain⟨G,hb8⟩:=b9 wc.heap.size;have JT:=ae hb8;rw[<-hb8]at QJ LS;rw[<-hb8];clear SP hb8;go_wp2_with fail
 go_loopg [9] yn (fun gk ii wr=>∃(k:Nat) (a1:j6) (Z p1:Nat),b7 (gk+k=yn)/\ii=.int .i64 (k:Int)/\b7 (o0 wr (G+1) (.slice a1 Z p1) ((J.take k).map ze))/\b7 (wr.heap[G]?=some (.cells #[.int .i64 1,.slice a1 Z p1,.slice none 0 0] 39 (0,0)))/\b7 (Ext wc wr)/\b7 (G+1<=wr.heap.size))
 case atStart=>exact⟨0,none,0,0,ae e7,rfl,ae (o0.nil _ _),QJ,PB,ae (by rw[LS.o];exact ao _)⟩
 case round =>
  obtain⟨g1,o7⟩:=b9 gk;subst o7;obtain⟨wr,Aw⟩:=b9 wr;subst Aw;obtain⟨k,a1,Z,p1,HK,rfl,HO,DB,E6,WY⟩:=hrel;have Mc:=ae (E6.o.blk P'.o);clear l0 l1 l2 l3 l4 l5 l6 lf;obtain⟨l0,l1,l2,l3,l4,l5,l6,lf⟩:=zN Mc.o
  try simp only at l0 l1 l2 l3 l4 l5 l6
  obtain⟨m0,m1,m2,mf⟩:=jY DB.o;by_cases hlt:k<yn
  ·obtain⟨yb,yo,y1,y2,rfl,Wi,An,EU⟩:=(ZI.o.ext E6.o).at hlt;have hkY:k<J.length:=by rw[Hi.o,<-Qs.o];exact hlt
   have GU:=aQ (Vv.o k hkY)
   try simp only at Wi
   rw[Wi]at GU
   try simp only at GU
   have Bw:=ae (yd hkY);rw[Wi]at Bw;have GH:=ae (show((J.take k).map ze).length=k by rw[zo,FX];omega);have O:Ext wr wr.drew:=Ext.drew wr;have k8:=ae (fun(w':World) (h:Ext wr w')=>(⟨h.j9 m1,h.j9 l2,h.j9 An,h.j9 EU⟩:w'.cell? ⟨G,1,none⟩=some (.slice a1 Z p1)/\w'.cell? ⟨b5,2,none⟩=some (.slice (some ⟨yb,yo,none⟩) yn yc)/\w'.cell? ⟨yb,yo+k*2,none⟩=some (.int .i64 y1)/\w'.cell? ⟨yb,yo+k*2+1,none⟩=some (.int .i64 y2)));have hb5n:b5≠G:=by have:=mr P'.o;have:=JT.o;omega
   have HYB:=ae (show yb<G by
    obtain⟨u1,u2,u3,u4,hu,hu2,hu3,_⟩:=ZI.o.at hlt;simp only[bA,mq,zz]at hu;have h1:=Kq _ _ hu3;have:=JT.o;simp only at h1
    omega)
   have hhsr:=WY.o;clear Wi;go_wp2_with fail;refine dD (M:=[11]) (S:=fun w'=>w'.cell? ⟨G,1,none⟩=some (.slice a1 Z p1)/\w'.cell? ⟨b5,2,none⟩=some (.slice (some ⟨yb,yo,none⟩) yn yc)/\w'.cell? ⟨yb,yo+k*2,none⟩=some (.int .i64 y1)/\w'.cell? ⟨yb,yo+k*2+1,none⟩=some (.int .i64 y2)) e9 ?_;have l7:=k8.o _ O;obtain⟨wd,hwd⟩:=b9 wr.drew;rw[<-hwd]at O l7;rw[<-hwd];clear hwd;have Rt:=O.size;refine lp 0 ?_;refine ll 1 ?_;refine lp 2 ?_;refine ll 3 ?_;refine lp 4 ?_;refine lp 5 ?_;refine ll 6 ?_;refine bg (i:=7) (oi:=?_) ?_ ?_ ?_ (fun K hK=>?_);rotate_left
   ·simp only[gA,gB,gC];rfl
   ·kernel_rfl
   ·kernel_rfl
   go_simp;go_at_call 51;refine(fm y1 y2 _ e7 e7).mono ?_;rintro e w9 ⟨rfl,hx9⟩;have O:Ext wr w9:=O.trans hx9;have SY:=O.size;go_wp2_with fail;refine hK.out _ _ (fun _=>k8.o _ O) ?_;have l7:=k8.o _ O;clear hK K
   try simp only[Act.put,sA,sB,sC]
   refine bg (i:=8) (oi:=?_) ?_ ?_ ?_ (fun K hK=>?_);rotate_left
   ·simp only[gA,gB,gC];rfl
   ·kernel_rfl
   ·kernel_rfl
   go_simp;refine hK.out _ _ (fun _=>k8.o _ (O.trans (Ext.alloc _ _))) ?_;clear hK K
   try simp only[Act.put,sA,sB,sC]
   refine bg (i:=9) (oi:=?_) ?_ ?_ ?_ (fun K hK=>?_);rotate_left
   ·simp only[gA,gB,gC];rfl
   ·kernel_rfl
   ·kernel_rfl
   refine dr _ _ j0 (G+1) (.slice a1 Z p1) _ j0 ((HO.o.ext O).ext (Ext.alloc _ _)) _ 1 _ [(-y1,y2)] j0 (Rats.one' _ _ _ _ _ rfl) (by rw[GH.o];omega) (by simp;omega) ?_;intro v6 Ii ho hg k9;obtain⟨a6,n6,p6,rfl,H'⟩:=ho.var;have Cf:=ae ho;have U3:=(hg.block G (by have:=WY.o;simp;omega) (fun e=>by have:=(HO.o.lt G e.symm).1;omega)).trans ((O.trans (Ext.alloc _ _)).blk DB.o);obtain⟨u0,u1,u2,uf⟩:=jY U3;have IC:=ae (ak (E6.o.trans (O.trans (Ext.alloc _ _))) hg (fun j hj=>by have:=(HO.o.lt j hj).1;have:=JT.o;omega));have Ut:=hg.size;have UU:=(hg.block b5 (by have:=mr Mc.o;simp;omega) (fun e=>by have:=(HO.o.lt b5 e.symm).1;have:=mr P'.o;have:=JT.o;omega)).trans ((O.trans (Ext.alloc _ _)).blk Mc.o);have UY:=(zN UU).2.2.1;have Qd:=IC.o;have S1:=O.trans (Ext.alloc w9 (.cells #[.int .i64 (-y1),.int .i64 y2] 62));have XK:=hg.block yb (by have:=HYB.o;have:=WY.o;have:=S1.size;omega) (fun e=>by have:=(HO.o.lt yb e.symm).1;have:=HYB.o;omega);clear ho hg k9;refine hK.out _ _ (fun _=>JH u1 (JH UY (JH ((ix XK _).trans (S1.j9 An)) ((ix XK _).trans (S1.j9 EU))))) ?_;have l7:=JH u1 (JH UY (JH ((ix XK _).trans (S1.j9 An)) ((ix XK _).trans (S1.j9 EU))));clear hK K
   try simp only[Act.put,sA,sB,sC]
   refine lp 10 ?_;refine dM (i:=11) (oi:=?_) (w':=?_) ?_ ?_ ?_ ?_ ?_ ?_ ?_;rotate_left 2
   ·simp only[gA,gB,gC];rfl
   ·kernel_rfl
   ·kernel_rfl
   ·exact EE e9
   ·rfl
   ·go_simp;(try with_reducible rfl)
   try simp only[Act.put,sA,sB,sC]
   refine dV e9 ?_ _;have L0:=ae (((o0.on Cf.o).set (a:=⟨G,1,none⟩) (by show G<G+1;omega) (.slice a6 n6 p6)).here);have IU:=ae (show(Ii.setCell ⟨G,1,none⟩ (.slice a6 n6 p6)).heap[G]?=some (.cells #[.int .i64 1,.slice a6 n6 p6,.slice none 0 0] 39 (0,0))from ta Ii G 1 _ _ _ U3);have LP:=ae (IC.o.setCell (p:=⟨G,1,none⟩) (by show wc.heap.size<=G;have:=JT.o;omega) (.slice a6 n6 p6));obtain⟨Hr,Kl⟩:=b9 (Ii.setCell ⟨G,1,none⟩ (.slice a6 n6 p6));rw[<-Kl]at L0 IU LP;have Hl:=ae (show G+1<=Hr.heap.size by have:=mr IU.o;omega);go_upto_region 13 with fail;rw[<-Kl];clear Kl l7 O U3 u0 u1 u2 uf UU UY Qd S1 XK l0 l1 l2 l3 l4 l5 l6 lf m0 m1 m2 mf;go_wp2_with fail
   go_roundg (g1-1)
   case measure=>have:=HK.o;omega
   case rel=>exact⟨k+1,a6,n6,p6,ae (j1 HK.o),by go_num,ae (by rw[<-Bw.o];exact L0.o),IU,LP,Hl⟩
  ·have zQ:k=yn:=by have:=HK.o;omega
   subst zQ;have hT:J.take k=J:=p4 (by rw[Hi.o,<-Qs.o];exact ao _);rw[hT]at HO;have B1:Z=q:=by rw[<-HO.o.zj.hlen,zo];exact Hi.o
   have ED:=ae B1;have En:(J.map ze).length=q:=by rw[zo];exact Hi.o
   obtain⟨u,hu⟩:∃u:Nat,u+1=q:=⟨q-1,by omega⟩;have EJ:u<Z:=by omega
   have HPU:=ae (show p-1=(u:Int)by have:=Ay.o;omega);have Qe:IntKind.i64.wrap (p-1)=(u:Int):=by rw[HPU.o,cn];have:=Ay.o;omega
   have Mk:(0:Int)<=(u:Int):=by omega
   have hul:(u:Int)<(Z:Int):=by omega
   obtain⟨I,OT,B2,Oy,I1⟩:=HO.o.block EJ;subst OT;obtain⟨y0,y1,x1,x2,Qd,Rh,Wk,Wj⟩:=HO.o.zj.at EJ;simp only[bA,mq,zz]at Qd;obtain⟨rfl,rfl⟩:=Qd;rw[Mf]at Wk Wj;obtain⟨k1,k2,two,UF⟩:∃l1 l2 o,Ab (x1,x2) (s1,s2)=((l1,l2),o):=⟨_,_,_,rfl⟩;have QA:=ae UF
   have CG:=ae (show iB g ⟨1,rX,J,rr,(zZ,zY),rp⟩=((k1,k2),two)by
    unfold iB dX Jh;simp only
    rw[En,show q-1=u by omega,Rh,CS.o,UF])
   have PL:=ae (show Wf g ⟨1,rX,J,rr,(zZ,zY),rp⟩=(J.map ze).set u (k1,k2)by
    unfold Wf Jh;simp only
    rw[CG.o,En,show q-1=u by omega])
   have HUL:=ae (show u<(J.map ze).length by rw[En];omega)
   have KO:=ae (show eL true g ⟨1,rX,J,rr,(zZ,zY),rp⟩=if two=true then 1 else 3 by
    unfold eL;rw[hD e8,hD e8,Gp.o,CG.o];simp;intro h
    omega)
   have e0':=E6.o.j9 e0;have Mr:=E6.o.j9 e1;have p0:=(E7.o.trans E6.o).j9 EC.o;have hc10:=HO.o.zj.l8;have hm10:=HO.o.zj.l9;have Rs:=WY.o;have hwcs:=E6.o.size;clear UF Rh hu En B1 hT;go_upto_region 15 with fail
   go_cut [10,11] (fun sx so wx=>∃gb:Nat,sx=.pointer (some ⟨gb,0,none⟩)/\so=.bool two/\b7 (ah wr wx gb k1 k2))
   case first =>
    have k7:Ext wr wr.drew:=Ext.drew wr;have zw:Ext wr (wr.alloc (.cells #[.int .i64 0,.int .i64 0] 62)).drew:=(Ext.alloc _ _).trans (Ext.drew _);have k8:=ae (fun(w':World) (h:Ext wr w')=>(⟨h.j9 Wk,h.j9 Wj,h.j9 m1,h.j9 p0,h.j9 e0',h.j9 Mr,h⟩:w'.cell? ⟨I,u*2,none⟩=some (.int .i64 x1)/\w'.cell? ⟨I,u*2+1,none⟩=some (.int .i64 x2)/\w'.cell? ⟨G,1,none⟩=some (.slice (some ⟨I,0,none⟩) Z p1)/\w'.cell? ⟨w.heap.size,0,none⟩=some (.int .i64 p)/\w'.cell? ⟨g6,0,none⟩=some (.int .i64 s1)/\w'.cell? ⟨g6,1,none⟩=some (.int .i64 s2)/\Ext wr w'))
    go_region_held3 (fun w'=>w'.cell? ⟨I,u*2,none⟩=some (.int .i64 x1)/\w'.cell? ⟨I,u*2+1,none⟩=some (.int .i64 x2)/\w'.cell? ⟨G,1,none⟩=some (.slice (some ⟨I,0,none⟩) Z p1)/\w'.cell? ⟨w.heap.size,0,none⟩=some (.int .i64 p)/\w'.cell? ⟨g6,0,none⟩=some (.int .i64 s1)/\w'.cell? ⟨g6,1,none⟩=some (.int .i64 s2)/\Ext wr w')
     (first
       | with_reducible exact k8.o _ k7
       | with_reducible exact k8.o _ zw
       | with_reducible exact k8.o _ ((k7.setCell (by first|(simp;done)|(simp;omega)) _).setCell (by first|(simp;done)|(simp;omega)) _)
       | with_reducible exact k8.o _ (k7.trans (Ext.alloc _ _))
       | with_reducible exact k8.o _ (q8.put _ _).ext)
     (first
       | (go_at_call 48
          (with_reducible refine(je _ _ _ _ _).mono ?_)
          rw[QA.o];rintro e TO ⟨rfl,Bn⟩
          first|(with_reducible have q8:=ah.grow q8 Bn)|(with_reducible have q8:=ah.zu Bn)|(with_reducible have q8:=ah.zy k7 Bn)|skip
          first|(have Dy:=q8.c0;have Dx:=q8.c1;have Ev:=q8.free)|skip
          have k7:Ext wr TO:=by first|with_reducible exact k7.trans Bn|with_reducible exact zw.trans Bn|with_reducible exact(k7.trans (Ext.alloc _ _)).trans Bn
          have A0:=k7.size)
       | fail)
    all_goals(go_wp2_with fail;go_meet;first|exact⟨_,rfl,rfl,ae (q8.put _ _)⟩|exact⟨_,rfl,rfl,ae (ah.new k7 _ _)⟩|exact⟨_,rfl,rfl,ae (ah.new' k7 _ _ e8)⟩)
   obtain⟨gb,rfl,rfl,HB⟩:=hcut;have XD:=(E7.o.trans E6.o).trans HB.o.ext;have HXD:=ae XD;have f0:=HB.o.c0;have f1:=HB.o.c1;have p0':=HB.o.ext.j9 p0;have As:=ae (HO.o.ext HB.o.ext);have FT:=ae (HB.o.ext.blk DB.o);obtain⟨n0,n2,n3,nf⟩:=jY FT.o;have hwcs2:=HB.o.ext.size;clear Wk Wj e0' Mr p0 m0 m1 m2 mf Oy e0 e1 XC;cases two
   ·have HC:=ae (show eL true g ⟨1,rX,J,rr,(zZ,zY),rp⟩=3 by rw[KO.o];rfl);obtain⟨q0,q1,q2,qf⟩:=Gq.o wc XD;obtain⟨z,z0,z1,z2,Q⟩:=Bc.o wc XD 3 (.slice none 0 0) (.slice none 0 0);have HZ:=ae z;have GF:=ae Q;clear z Q;go_wp2_with fail;refine bR (v:=.agg #[.int .i64 3,.slice none 0 0,.slice none 0 0]) (by simp[results,abN,go_sem,z0,z1,z2]) rfl ⟨⟨_,_,_,_,_,_,by rw[HC.o],fun h=>by rw[HC.o]at h;cases h⟩,HZ.o⟩
   ·have HC:=ae (show eL true g ⟨1,rX,J,rr,(zZ,zY),rp⟩=1 by rw[KO.o];rfl);obtain⟨gp,RH,YZ,Oy,hgl2⟩:=As.o.block EJ;simp only[bA,mq,zz]at RH;subst RH;obtain⟨y3,y4,y5,y6,Qd,_,Uc,XM⟩:=As.o.zj.at EJ;simp only[bA,mq,zz]at Qd;obtain⟨rfl,rfl⟩:=Qd;rw[Mf]at Uc XM;have Hn:=ae (As.o.set HUL.o k1 k2);have hxb8:I≠G:=by omega
    have IT:=ae (show((wc.setCell ⟨I,u*2,none⟩ (.int .i64 k1)).setCell ⟨I,u*2+1,none⟩ (.int .i64 k2)).heap[G]?=some (.cells #[.int .i64 1,.slice (some ⟨I,0,none⟩) Z p1,.slice none 0 0] 39 (0,0))from
     ((bB _ _ _ _ (by show G≠I;omega)).trans (bB _ _ _ _ (by show G≠I;omega))).trans FT.o)
    have XX:W.heap.size<=I:=by have:=E7.o.size;have:=JT.o;omega
    have XP:Ext W ((wc.setCell ⟨I,u*2,none⟩ (.int .i64 k1)).setCell ⟨I,u*2+1,none⟩ (.int .i64 k2)):=(XD.setCell (p:=⟨I,u*2,none⟩) XX _).setCell (p:=⟨I,u*2+1,none⟩) XX _;obtain⟨wp,NY⟩:=b9 ((wc.setCell ⟨I,u*2,none⟩ (.int .i64 k1)).setCell ⟨I,u*2+1,none⟩ (.int .i64 k2));rw[<-NY]at Hn XP IT;rw[<-PL.o]at Hn;go_upto_region 19 with fail;rw[<-NY];clear NY Uc XM Oy f0 f1 XD n0 n2 n3 nf;obtain⟨n0,n2,n3,nf⟩:=jY IT.o;obtain⟨q0,q1,q2,qf⟩:=Gq.o wp XP;obtain⟨z,z0,z1,z2,Q⟩:=Bc.o wp XP 1 (.slice (some ⟨I,0,none⟩) Z p1) (.slice none 0 0);have HZ:=ae z;have GF:=ae Q;clear z Q;go_wp2_with fail;refine bR (v:=.agg #[.int .i64 1,.slice (some ⟨I,0,none⟩) Z p1,.slice none 0 0]) (by simp[results,abN,go_sem,z0,z1,z2]) rfl ⟨⟨_,_,_,_,_,_,by rw[HC.o],fun _=>(Hn.o.mono (by have:=E7.o.size;have:=JT.o;omega)).keep fun k hk=>GF.o k (by have:=(Hn.o.lt k hk).1;have:=E7.o.size;have:=JT.o;omega)⟩,HZ.o⟩
