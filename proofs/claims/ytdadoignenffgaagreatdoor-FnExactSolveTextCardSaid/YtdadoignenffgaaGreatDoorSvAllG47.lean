import Derived.Test.YtdadoignenffgaaGreatDoorSvAllG20
import Derived.Test.YtdadoignenffgaaGreatDoorSvAllG18
import Derived.Test.YtdadoignenffgaaGreatDoorSvAllG46
import Derived.Test.YtdadoignenffgaaGreatDoorSvAllG44
set_option linter.unusedVariables false
set_option linter.unusedSimpArgs false
namespace Go.Proofs.YtdadoignenffgaaGreatDoor
variable{w:World}
set_option maxHeartbeats 16000000
set_option maxRecDepth 100000
open Go.RowKit
theorem pJ{p:Int}{a:j6}{n cap:Nat}{V:j7}(h:Ints w a n cap V):
 Calls Tryz.prog 46 #[pair p a n cap] w fun e w'=>Ud w' e (cq p.toNat n) (cL p.toNat) (bg V) (aH p V)/\Ext w w':=by
 obtain⟨W,hW⟩:=b9 ((w.alloc (.cells #[.int .i64 p,.slice a n cap] 32)).alloc (.cells #[.slice none 0 0,.slice none 0 0,.slice none 0 0] 68));have O:=ae (show W.heap.size=w.heap.size+2 by rw[hW];simp);have uV:=ae (show Ext w W by rw[hW];exact(Ext.alloc _ _).trans (Ext.alloc _ _));have D9:=ae (show W.cell? ⟨w.heap.size,1,none⟩=some (.slice a n cap)by rw[hW];simp);have D8:=ae (show W.cell? ⟨w.heap.size,0,none⟩=some (.int .i64 p)by rw[hW];simp);have K1:=ae (show W.heap[w.heap.size+1]?=some (.cells #[.slice none 0 0,.slice none 0 0,.slice none 0 0] 68 (0,0))by rw[hW];exact aj _ _ _ e8);obtain⟨WG,Kx⟩:=b9 (w.alloc (.cells #[.int .i64 p,.slice a n cap] 32));have HXG:=ae (show Ext WG W by rw[hW,Kx];exact Ext.alloc _ _);have H9:=ae (show WG.heap.size=w.heap.size+1 by rw[Kx];simp);have HG0:=ae (show WG.cell? ⟨w.heap.size,0,none⟩=some (.int .i64 p)by rw[Kx];simp);have Gq:=ae (show WG.cell? ⟨w.heap.size,1,none⟩=some (.slice a n cap)by rw[Kx];simp);clear Kx;have xJ:=ae h.hlen;have EU:=h.l8;have ET:=h.o0;have Cb:=ae (h.ext uV.o);have HC:=ae (dU (p:=p) (h.ext uV.o));have Dj:(w.heap.size+1)<W.heap.size:=by rw[O.o];omega
 have wi:=ae (fun(w':World) (hx:Ext W w')=>(hx.block _ Dj).trans K1.o);clear h Dj;cases hg:aH p V
 ·rw[hg,hW]at HC;clear hg;go_enter Tryz.func46,Tryz.ntmps46
  go_wp2_with fail;refine HC.o.mono ?_;rw[<-hW];rintro e w1 ⟨rfl,Q⟩;have xA:=vz.ym (wi.o w1 Q);have xm:=vz.yk (wi.o w1 Q);have yI:=vz.yj (wi.o w1 Q);have CT:=vz.y8 (wi.o w1 Q);have vh:=ae Q;clear Q;go_wp2_with fail;refine bodyPost_ret (v:=.tuple #[.agg #[.slice none 0 0,.slice none 0 0,.slice none 0 0],.bool false]) (by simp[results,Tryz.results46,go_sem,xA,xm,yI]) rfl ⟨⟨none,0,0,none,0,0,none,0,0,rfl,fun h=>Bool.noConfusion h⟩,(((uV.o.trans vh.o).store 0 e7 _).store 1 e7 _).store 2 e7 _⟩
 ·obtain⟨q,rfl,h1,h5,hlen,_,xK⟩:=bF hg;have hq:=cW q h5;have BS:n<=32:=by rw[<-xJ.o,hlen];omega
  have zv:1<=n:=by rw[<-xJ.o,hlen];omega
  have B0:=ae xK;have zA:=ae (show(bg V).length=n-1 by unfold bg;simp[xJ.o]);rw[hg,hW]at HC;clear hg hlen xK hq;go_enter Tryz.func46,Tryz.ntmps46
  go_wp2_with fail;refine HC.o.mono ?_;rw[<-hW];clear hW;rintro e w1 ⟨rfl,Q⟩;have BQ:=Q.size;rw[O.o]at BQ;have vh:=ae Q;have FG:=ae (vz.new (w:=w1) (base:=w.heap.size+2) BQ);obtain⟨g,E'⟩:=b9 w1.heap.size;obtain⟨E,hE⟩:=b9 (w1.alloc (.cells #[.slice none 0 0,.slice none 0 0,.slice none 0 0] 68));have QS:=ae (show Ext W E by rw[hE];exact Q.trans (Ext.alloc _ _));rw[<-E',<-hE]at FG;clear Q HC;go_upto_region 4 with fail;rw[<-hE,<-E'];clear hE E';go_wp2_with fail
  go_loopg [5] (n-1) (fun gk ii wr=>∃(k:Nat) (vc:Value),b7 (gk+k=n-1)/\ii=.int .i64 ((k+1:Nat):Int)/\b7 (vz wr (w.heap.size+2) g (.slice none 0 0) (.slice none 0 0) vc [] [] [] ((bg V).take k))/\b7 (Ext W wr))
  case atStart=>exact⟨0,_,ae e7,rfl,FG,QS⟩
  case round =>
   obtain⟨g1,o6⟩:=b9 gk;subst o6;obtain⟨o8,o4⟩:=b9 wr;subst o4;obtain⟨k,vc,HK,rfl,U,HX⟩:=hrel;have hsz:=HX.o.size;rw[O.o]at hsz;have Kl:=HX.o.j9 D9.o;by_cases hlt:k+1<n
   ·obtain⟨eb,vd,AD,xj⟩:=(Cb.o.ext HX.o).at hlt;subst AD;obtain⟨v,hv⟩:=b9 (V[k+1]?.getD 0);have xK:-500<=v/\v<=500:=by
     rw[hv,List.getElem?_eq_getElem (by rw[xJ.o];exact hlt),Option.getD_some];exact B0.o _ (List.getElem_mem _)
    rw[<-hv]at xj
    have Uo:=ae (show W.cell? ⟨eb,vd+(k+1),none⟩=some (.int .i64 v)by
     obtain⟨eb',T5,Kk,Qd⟩:=Cb.o.at hlt;simp only[Option.some.injEq,Addr.mk.injEq,and_true]at Kk;obtain⟨rfl,rfl⟩:=Kk
     rw[hv];exact Qd)
    have xZ:=ae (ln xJ.o hlt hv.symm);have FU:IntKind.i64.wrap (-v)=-v:=by rw[IntKind.wrap_i64];omega
    have BU:(0:Int)<=((k+1:Nat):Int):=by omega
    have yx:((k+1:Nat):Int)<(n:Int):=by omega
    have OC:IntKind.i64.wrap (((k+1:Nat):Int)+1)=((k+1+1:Nat):Int):=by rw[IntKind.wrap_i64];omega
    have k7:(0:Int)<=(k:Int)+1:=by omega
    have Bv:(k:Int)+1<(n:Int):=by omega
    have hk4:((k:Int)+1).toNat=k+1:=by omega
    have Gf:=ae (show((bg V).take k).length=k by rw[List.length_take,zA.o];omega);have t2:=U.o.c2;clear hv;have k8:=ae (fun(w':World) (h:Ext o8 w')=>(⟨h.j9 t2,h.j9 Kl,h.j9 xj,HX.o.trans h⟩:w'.cell? ⟨g,2,none⟩=some vc/\w'.cell? ⟨w.heap.size,1,none⟩=some (.slice (some ⟨eb,vd,none⟩) n cap)/\w'.cell? ⟨eb,vd+(k+1),none⟩=some (.int .i64 v)/\Ext W w'));have J:Ext o8 o8.drew:=Ext.drew o8;go_upto_region 7 with fail;refine dr (M:=[12]) (S:=fun w'=>w'.cell? ⟨g,2,none⟩=some vc/\w'.cell? ⟨w.heap.size,1,none⟩=some (.slice (some ⟨eb,vd,none⟩) n cap)/\w'.cell? ⟨eb,vd+(k+1),none⟩=some (.int .i64 v)/\Ext W w') e9 ?_;have k9:=k8.o _ J;obtain⟨wd,hwd⟩:=b9 o8.drew;rw[<-hwd]at J k9;rw[<-hwd];clear hwd;have MX:=J.size;refine lp 0 ?_;refine ll 1 ?_;refine lp 2 ?_;refine ll 3 ?_;refine lp 4 ?_;refine lp 5 ?_;refine ll 6 ?_;refine lp 7 ?_;refine aW (i:=8) (oi:=?_) ?_ ?_ ?_ (fun K hK=>?_);rotate_left
    ·simp only[gA,gB,gC];rfl
    ·kernel_rfl
    ·kernel_rfl
    go_simp;go_at_call 49;refine(cl _ _).mono ?_;rintro e w3 ⟨rfl,vj⟩;have J:Ext o8 w3:=J.trans vj;have Cs:=J.size;go_wp2_with fail;refine hK.out _ _ (fun _=>k8.o _ J) ?_;have k9:=k8.o _ J;clear hK K
    try simp only[Act.put,sA,sB,sC]
    refine aW (i:=9) (oi:=?_) ?_ ?_ ?_ (fun K hK=>?_);rotate_left
    ·simp only[gA,gB,gC];rfl
    ·kernel_rfl
    ·kernel_rfl
    go_simp;refine hK.out _ _ (fun _=>k8.o _ (J.trans (Ext.alloc _ _))) ?_;clear hK K
    try simp only[Act.put,sA,sB,sC]
    refine aW (i:=10) (oi:=?_) ?_ ?_ ?_ (fun K hK=>?_);rotate_left
    ·simp only[gA,gB,gC];rfl
    ·kernel_rfl
    ·kernel_rfl
    refine cU _ _ j0 (w.heap.size+2) vc _ j0 ((U.o.c.ext J).ext (Ext.alloc _ _)) _ 1 _ [(-v,1)] j0 (Rats.one' _ _ _ _ _ rfl) (by rw[Gf.o];omega) (by simp;omega) ?_;intro v6 w6 ho OH l7;obtain⟨a6,n6,q6,rfl,Eh⟩:=ho.var;have V1:=ae (U.o.Oh (J.trans (Ext.alloc _ _)) OH ho);have YN:=U.o.T8 (J.trans (Ext.alloc _ _)) OH;have Y7:=vz.yj YN;have cf6:=vz.y8 YN;have Z:Ext W w6:=ak ((HX.o.trans J).trans (Ext.alloc _ _)) OH (fun j hj=>by rw[O.o];exact(U.o.c.lt j hj).1);clear ho OH l7 YN;refine hK.out _ _ (fun _=>And.intro Y7 (And.intro (Z.j9 D9.o) (And.intro (Z.j9 Uo.o) Z))) ?_;have k9:=And.intro Y7 (And.intro (Z.j9 D9.o) (And.intro (Z.j9 Uo.o) Z));clear hK K
    try simp only[Act.put,sA,sB,sC]
    refine lp 11 ?_;refine dH (i:=12) (oi:=?_) (w':=?_) ?_ ?_ ?_ ?_ ?_ ?_ ?_;rotate_left 2
    ·simp only[gA,gB,gC];rfl
    ·kernel_rfl
    ·kernel_rfl
    ·exact of_decide_eq_true e9
    ·rfl
    ·go_simp;(try with_reducible rfl)
    try simp only[Act.put,sA,sB,sC]
    refine dM e9 ?_ _;have Ez:=ae (Z.setCell (p:=⟨g,2,none⟩) (by rw[O.o];exact U.o.hg) (.slice a6 n6 q6));obtain⟨W9,Dp⟩:=b9 (w6.setCell ⟨g,2,none⟩ (.slice a6 n6 q6));rw[<-Dp]at V1 Ez;go_upto_region 6 with fail;rw[<-Dp];clear Dp Y7 cf6 k9 J Z t2;go_wp2_with fail
    go_roundg (g1-1)
    case measure=>have:=HK.o;omega
    case rel=>exact⟨k+1,_,ae (j1 HK.o),by go_num,ae (by rw[<-xZ.o];exact V1.o),Ez⟩
   ·have hT:(bg V).take k=bg V:=List.take_of_length_le (by rw[zA.o];omega);rw[hT]at U;have hcp0:=HX.o.j9 D8.o;obtain⟨aC,nC,cC,rfl,UN⟩:=U.o.c.var;have wm:¬((k:Int)+1)<(n:Int):=by omega
    obtain⟨L,hL⟩:=b9 (yA 1 (n-1));have xg:=ae (show L.length=n-1 by rw[hL];simp[yA])
    have zk:=ae (fun(j:Nat) (hj:j<n-1)=>show L[j]?.getD 0=(j:Int)+1 by
     rw[hL,List.getElem?_eq_getElem (by simp[yA];exact hj)]
     simp[yA];omega)
    have IC:=ae hL;clear hT hL;go_wp2_with fail
    go_loopg [6] q (fun gk ii wr=>∃(k:Nat) (va vb:Value) (vs:List Value),b7 (gk+k=q)/\ii=.int .i64 (k:Int)/\b7 (vz wr (w.heap.size+2) g va vb (.slice aC nC cC) vs (xz k L) (List.replicate k 1) (bg V))/\b7 (Ext W wr))
    case atStart=>exact⟨0,_,_,[],ae e7,rfl,U,HX⟩
    case round =>
     obtain⟨g2,wv⟩:=b9 gk;subst wv;obtain⟨G,vo⟩:=b9 wr;subst vo;obtain⟨k,va,vb,vs,Gp,rfl,I,wF⟩:=hrel;have AN:=wF.o.size;rw[O.o]at AN;have CV:=wF.o.j9 D8.o;have Dk:=wF.o.j9 D9.o;by_cases hkq:k<q
     ·have UB:=ae (o5.wJ G G.heap.size _ rfl (Nat.le_refl _));have hkqi:(k:Int)<(q:Int):=by omega
      go_wp2_with fail
      go_loopg [7,8] (n-1) (fun gk row ii wr=>∃(j:Nat) (a2:j6) (n2 p2:Nat),b7 (gk+j=n-1)/\ii=.int .i64 ((j+1:Nat):Int)/\row=.slice a2 n2 p2/\b7 (o5 wr G.heap.size (.slice a2 n2 p2) (xd (L.take j) k))/\b7 (Ext G wr))
      case atStart=>exact⟨0,_,_,_,ae e7,rfl,rfl,UB,ae (Ext.alloc _ _)⟩
      case round =>
       obtain⟨g3,AT⟩:=b9 gk;subst AT;obtain⟨wr3,yE⟩:=b9 wr;subst yE;obtain⟨j,a2,n2,p2,HJ,rfl,rfl,HO,vk⟩:=hrel;have BP:=vk.o.size;have PU:=vk.o.j9 Dk;by_cases yW:j+1<n
       ·have hjw:IntKind.i64.wrap (((j+1:Nat):Int)+1)=((j+1+1:Nat):Int):=by rw[IntKind.wrap_i64];omega
        have XX:(j:Int)+1<(n:Int):=by omega
        obtain⟨hb,Ya⟩:=b9 (yq ((j:Int)+1) (k:Int));have N2:=ae (fun w'=>eg ((j:Int)+1) (k:Int) w' e7);simp only[<-Ya]at N2;have Mb:=ae (fun w'=>fD hb w');have xZ:=ae (jx (l:=L) (j:=j) (k:=k) (b:=hb) (by rw[xg.o];omega) (by rw[zk.o j e7];exact Ya.symm));have xW:=ae (show(xd (L.take j) k).length=j by simp only[xd,List.length_map,List.length_take];rw[xg.o];omega);obtain⟨bt,Is⟩:=b9 (vX hb);rw[<-Is]at xZ;simp only[<-Is]at Mb;clear Ya Is
        go_wp2_with (first
         | (go_at_call 40;refine(N2.o _).mono ?_;rintro e w4 ⟨rfl,rfl⟩)
         | (go_at_call 104;refine(Mb.o _).mono ?_;rintro e w4 ⟨rfl,rfl⟩)
         | (at_builtin;refine bv rfl _ _ rfl G.heap.size (.slice a2 n2 p2) _ rfl (HO.o.ext (Ext.alloc _ _)) _ 1 _ [bt] rfl (Ints.zp _ _ _ _ e8) (by rw[xW.o];omega) (by simp;omega) ?_;intro v5 w5 ho Yi l7;have X5:=ae (ak (vk.o.trans (Ext.alloc _ _)) Yi (fun i hi=>(HO.o.lt i hi).1));obtain⟨a5,n5,c5,rfl,zj⟩:=ho.var;have vU:=ae ho;clear ho Yi l7))
        go_roundg (g3-1)
        case measure=>have:=HJ.o;omega
        case rel=>exact⟨j+1,a5,n5,c5,ae (j1 HJ.o),by go_num,rfl,ae (by rw[<-xZ.o];exact vU.o),X5⟩
       ·have XX:¬((j:Int)+1)<(n:Int):=by omega
        have hTL:L.take j=L:=List.take_of_length_le (by rw[xg.o];omega);rw[hTL]at HO;have HMS:=ae (nw k L);have xJ:=ae (show vs.length=k by rw[I.o.rows.len];simp[xz]);have NV:=ae (I.o.ext vk.o);have t0:=NV.o.c0;have bf:=NV.o.free;clear hTL
        go_upto_region 17 with(first
         | (at_builtin;refine eF rfl _ _ rfl (w.heap.size+2) va vs rfl (NV.o.a.ext (Ext.alloc _ _)) _ _ 1 rfl (by simp;rfl) rfl (by rw[xJ.o];omega) (by simp;omega) ?_;intro v6 w6 ho hg l7;have Ei:=ae (I.o.Ch (vk.o.trans (Ext.alloc _ _)) (HO.o.ext (Ext.alloc _ _)) e7 hg ho l7);have BJ:=NV.o.F' (Ext.alloc _ _) hg;have RQ:=vz.ym BJ;have Yk:=vz.y8 BJ;have X6:=ae ((((wF.o.trans vk.o).trans (Ext.alloc _ _)).grown hg (fun j hj=>by rw[O.o];exact(I.o.a.lt j hj).1)).store (b:=g) 0 (by rw[O.o];exact I.o.hg) v6);obtain⟨a6,n6,p6,rfl,Eh⟩:=ho.var;clear ho hg l7 BJ))
        obtain⟨W6,YR⟩:=b9 (w6.setCell ⟨g,0,none⟩ (.slice a6 n6 p6));rw[<-YR]at Ei X6;rw[<-YR];clear YR RQ Yk t0 bf;have t1:=Ei.o.c1;have bf:=Ei.o.free;have hgl6:=Ei.o.lt;have BA:=ae (show Ext W W6 from X6.o);have W7:=BA.o.size;rw[O.o]at W7
        go_wp2_with (first
         | (at_builtin;refine bv rfl _ _ rfl (w.heap.size+2) vb _ rfl (Ei.o.b.ext (Ext.alloc _ _)) _ 1 _ [1] rfl (Ints.zp _ _ _ _ e8) (by simp;omega) (by simp;omega) ?_;intro v9 w9 ho VC l7;have Sb:=ae (Ei.o.pushB (Ext.alloc _ _) VC ho l7);have yi:=Ei.o.Hm (Ext.alloc _ _) VC;have VQ:=vz.yk yi;have VN:=vz.y8 yi;have X9:=ae (((BA.o.trans (Ext.alloc _ _)).grown VC (fun j hj=>by rw[O.o];exact(Ei.o.b.lt j hj).1)).store (b:=g) 1 (by rw[O.o];exact I.o.hg) v9);obtain⟨a9,n9,q9,rfl,LZ⟩:=ho.var;clear ho VC l7 yi))
        go_roundg (g2-1)
        case measure=>have:=Gp.o;omega
        case rel=>exact⟨k+1,_,_,_,ae (j1 Gp.o),by go_num,ae (by have h1:=Sb.o;rw[HMS.o,<-List.replicate_succ']at h1;exact h1),X9⟩
     ·have XN:q=k:=by have:=Gp.o;omega
      have hnk:¬(k:Int)<(q:Int):=by omega
      subst XN;obtain⟨aA,nA,cA,rfl,O7⟩:=I.o.a.var;obtain⟨aB,nB,cB,rfl,Ef⟩:=I.o.b.var;have t0:=I.o.c0;have t1:=I.o.c1;have t2:=I.o.c2;have Fa:=I.o.hg;have z7:=wi.o G wF.o;have xA:=vz.ym z7;have xm:=vz.yk z7;have yI:=vz.yj z7;have CT:=vz.y8 z7;have OD:∀j,w.heap.size+2<=j->(((G.setCell ⟨w.heap.size+1,0,none⟩ (.slice aA nA cA)).setCell ⟨w.heap.size+1,1,none⟩ (.slice aB nB cB)).setCell ⟨w.heap.size+1,2,none⟩ (.slice aC nC cC)).heap[j]?=G.heap[j]?:=fun j yx=>by
       rw[heap_setCell_other _ _ _ _ (show j≠w.heap.size+1 by omega),heap_setCell_other _ _ _ _ (show j≠w.heap.size+1 by omega),heap_setCell_other _ _ _ _ (show j≠w.heap.size+1 by omega)]
      clear z7;go_wp2_with fail;refine bodyPost_ret (v:=.tuple #[Al aA nA cA aB nB cB aC nC cC,.bool true]) (by simp[results,Tryz.results46,go_sem,xA,xm,yI]) rfl ⟨⟨aA,nA,cA,aB,nB,cB,aC,nC,cC,rfl,fun _=>⟨?_,?_,?_⟩⟩,(((uV.o.trans wF.o).store 0 e7 _).store 1 e7 _).store 2 e7 _⟩
      ·have h0:cV G (w.heap.size+2) (.slice aA nA cA) (xz q L):=⟨vs,I.o.a,I.o.rows⟩;rw[IC.o]at h0;exact cV.DC (h0.on _ fun j h1 _=>OD j h1)
      ·exact(I.o.b.on _ fun j h1 _=>OD j h1).ints
      ·exact(I.o.c.keep fun j h1=>OD j (I.o.c.lt j h1).1).uZ
theorem ug{Y:j4}{k:Nat}(h:k<Y.length):(Y.take k).map uU++[uU (Y[k]?.getD (0,0))]=(Y.take (k+1)).map uU:=by rw[fs h,List.map_append];rfl
theorem fY{w':World}{b:Nat}(h:w'.heap[b]?=w.heap[b]?)(o:Nat):w'.cell? ⟨b,o,none⟩=w.cell? ⟨b,o,none⟩:=by simp only[World.cell?,h]
theorem sZ{p:Int}{a:j6}{n cap:Nat}{V:j7}(h:Ints w a n cap V):
 Calls Tryz.prog 19 #[pair p a n cap] w fun e w'=>CoR w' w.heap.size e (eh (aH p V) (bI p V) (be am (cq p.toNat n) (cL p.toNat) (bg V))) (Rv (bI p V) (be am (cq p.toNat n) (cL p.toNat) (bg V)))/\Ext w w':=by
 obtain⟨W,hW⟩:=b9 ((w.alloc (.cells #[.int .i64 p,.slice a n cap] 32)).alloc (.cells #[.int .i64 0,.slice none 0 0,.slice none 0 0] 39));have WI:W.heap.size=w.heap.size+2:=by rw[hW];simp
 have hX:Ext w W:=by rw[hW];exact(Ext.alloc _ _).trans (Ext.alloc _ _)
 have wi:=ae (show W.heap[w.heap.size+1]?=some (.cells #[.int .i64 0,.slice none 0 0,.slice none 0 0] 39 (0,0))by rw[hW];exact aj _ _ _ e8);have Bh:=ae (show W.cell? ⟨w.heap.size,0,none⟩=some (.int .i64 p)by rw[hW];exact Ext.j9 (Ext.alloc _ _) e8);have Ee:=ae (show W.cell? ⟨w.heap.size,1,none⟩=some (.slice a n cap)by rw[hW];exact Ext.j9 (Ext.alloc _ _) e8);have HI:=ae (h.ext hX);have HX:=ae hX;have Cd:=ae (pJ (p:=p) HI.o);obtain⟨g,DM⟩:=b9 (bI p V);obtain⟨r,xA⟩:=b9 (be am (cq p.toNat n) (cL p.toNat) (bg V));have HG:=ae DM;have zE:=ae xA;rw[<-DM,<-xA];have xD:=ae (fun(w':World) (hx:Ext W w') (code:Int) (x1 x2:Value)=>rh (w:=w) ((hx.block _ e7).trans wi.o) (HX.o.trans hx) (Nat.le_succ _) (.int .i64 code) x1 x2);have CM:=ae (fun(w':World) (hx:Ext W w')=>iF ((hx.block _ e7).trans wi.o));clear h hX DM xA;cases hgo:aH p V
 ·rw[hgo]at Cd;have HC:=ae (show eh false g r=0 from rfl);clear hgo;go_enter Tryz.func19,Tryz.ntmps19
  go_wp2_with fail;rw[<-hW];refine Cd.o.mono ?_;rintro e w1 ⟨⟨la,C9,Dc,lb,C8,Db,lc,C7,Da,rfl,_⟩,hx⟩;unfold Al;obtain⟨w2,AM⟩:=b9 (w1.alloc (aV la C9 Dc lb C8 Db lc C7 Da));have X2:Ext W w2:=by rw[AM];exact hx.trans (Ext.alloc _ _)
  obtain⟨q0,q1,q2,qf⟩:=CM.o w2 X2;obtain⟨z,z0,z1,z2,_⟩:=xD.o w2 X2 0 (.slice none 0 0) (.slice none 0 0);have HZ:=ae z;go_upto_region 2 with fail;rw[<-AM];clear hx AM hW z;go_wp2_with fail;refine bodyPost_ret (v:=.agg #[.int .i64 0,.slice none 0 0,.slice none 0 0]) (by simp[results,Tryz.results19,go_sem,z0,z1,z2]) rfl ⟨⟨_,_,_,_,_,_,by rw[HC.o],fun h=>by rw[HC.o]at h;cases h⟩,HZ.o⟩
 rw[hgo]at Cd;have Zv:=ae (tE hgo (cq p.toNat n) (cL p.toNat));obtain⟨q,vK,Ao,CU,YS,_,LM⟩:=bF hgo;have Fa:-500<=g/\g<=500:=by rw[HG.o,fO hgo];exact gP LM _
 have wI:=ae vK;clear hgo YS LM vK;go_enter Tryz.func19,Tryz.ntmps19
 go_wp2_with fail;rw[<-hW];refine Cd.o.mono ?_;rintro e w1 ⟨⟨la,C9,Dc,lb,C8,Db,lc,C7,Da,rfl,Hd⟩,hx⟩;unfold Al;obtain⟨w2,AM⟩:=b9 (w1.alloc (aV la C9 Dc lb C8 Db lc C7 Da));have vL:Ext w1 w2:=by rw[AM];exact Ext.alloc _ _
 have X2:=ae (hx.trans vL);have CJ:=ae (nZ ((Hd rfl).ext vL));rw[<-Zv.o,<-zE.o]at CJ;have VG:w2.heap[w1.heap.size]?=some (.cells #[.slice la C9 Dc,.slice lb C8 Db,.slice lc C7 Da] 68 (0,0)):=by rw[AM];exact aj _ _ _ rfl
 have t0:=al VG;have t1:=au VG;have t2:=av VG;go_upto_region 2 with fail;rw[<-AM];clear hx vL Hd AM hW VG;go_wp2_with fail;refine CJ.o.mono ?_
 have xh:=ae (fun(hs:r.status=1)=>show r.Y.length=q/\o9 r.value=true/\∀k,k<r.Y.length->o9 (r.Y[k]?.getD (0,0))=true by
  have:=fq (bound:=am) (A:=cq p.toNat n) (B:=cL p.toNat) (C:=bg V) (by rw[<-zE.o];exact hs);rw[<-zE.o]at this;refine⟨?_,this.2.2.2.2⟩;rw[this.2.2.2.1];unfold cL
  rw[List.length_replicate,wI.o,Int.toNat_natCast])
 rintro e w3 ⟨⟨xa,xn,xc,ya,yn,yc,ra,rn,rc,rfl,AW⟩,vj⟩;obtain⟨Q,Gy⟩:=b9 (w3.alloc (bH r xa xn xc ya yn yc ra rn rc));have vW:Ext w3 Q:=by rw[Gy];exact Ext.alloc _ _
 have X4:=ae ((X2.o.trans vj).trans vW);have xE:=ae (AW.here.ext vW);have DU:=ae (show Q.heap[w3.heap.size]?=some (bH r xa xn xc ya yn yc ra rn rc)by rw[Gy];exact aj _ _ _ rfl);obtain⟨rs,rX,I,rr,⟨Z,vQ⟩,rp⟩:=r;unfold zg;go_upto_region 5 with fail;rw[<-Gy];clear AW vj vW Gy t0 t1 t2;generalize w3.heap.size=b5 at DU⊢;obtain⟨l0,l1,l2,l3,l4,l5,l6,lf⟩:=vH DU.o
 try simp only at l0 l1 l2 l3 l4 l5 l6
 have CQ:=ae (fun(w':World) (hx:Ext W w')=>jz (p:=p) (HI.o.ext hx));simp only[<-HG.o]at CQ;have b0:=X4.o.j9 Bh.o;have b1:=X4.o.j9 Ee.o;obtain⟨s1,s2,one,Fw⟩:∃s1 s2 o,we (g,1) (Z,vQ)=((s1,s2),o):=⟨_,_,_,rfl⟩;have zP:=ae Fw;have CK:=ae (show dC g ⟨rs,rX,I,rr,(Z,vQ),rp⟩=((s1,s2),one)from Fw);clear Fw;go_upto_region 5 with fail
 go_cut [6,7] (fun sx so wx=>∃g6:Nat,sx=.pointer (some ⟨g6,0,none⟩)/\so=.bool one/\b7 (ag Q wx g6 s1 s2))
 case first =>
  have k7:Ext Q Q.drew:=Ext.drew Q;have vt:Ext Q (Q.alloc (.cells #[.int .i64 0,.int .i64 0] 62)).drew:=(Ext.alloc _ _).trans (Ext.drew _);have k8:=ae (fun(w':World) (h:Ext Q w')=>(⟨h.j9 b0,h.j9 b1,h.j9 l4,h.j9 l5,h⟩:w'.cell? ⟨w.heap.size,0,none⟩=some (.int .i64 p)/\w'.cell? ⟨w.heap.size,1,none⟩=some (.slice a n cap)/\w'.cell? ⟨b5,4,none⟩=some (.int .i64 Z)/\w'.cell? ⟨b5,5,none⟩=some (.int .i64 vQ)/\Ext Q w'))
  go_region_held3 (fun w'=>w'.cell? ⟨w.heap.size,0,none⟩=some (.int .i64 p)/\w'.cell? ⟨w.heap.size,1,none⟩=some (.slice a n cap)/\w'.cell? ⟨b5,4,none⟩=some (.int .i64 Z)/\w'.cell? ⟨b5,5,none⟩=some (.int .i64 vQ)/\Ext Q w')
   (first
     | with_reducible exact k8.o _ k7
     | with_reducible exact k8.o _ vt
     | with_reducible exact k8.o _ ((k7.setCell (by first|(simp;done)|(simp;omega)) _).setCell (by first|(simp;done)|(simp;omega)) _)
     | with_reducible exact k8.o _ (k7.trans (Ext.alloc _ _))
     | with_reducible exact k8.o _ (p4.put _ _).ext)
   (first
     | (go_at_call 50
        (with_reducible refine(CQ.o _ (X4.o.trans (by first|with_reducible exact k7|with_reducible exact vt|with_reducible exact k7.trans (Ext.alloc _ _)))).mono ?_)
        rintro e w5 ⟨rfl,uY⟩
        first|(with_reducible have p4:=ag.grow p4 uY)|(with_reducible have p4:=ag.vm uY)|(with_reducible have p4:=ag.vq k7 uY)|skip
        first|(have Ag:=p4.c0;have Af:=p4.c1;have Bb:=p4.free)|skip
        have k7:Ext Q w5:=by first|with_reducible exact k7.trans uY|with_reducible exact vt.trans uY|with_reducible exact(k7.trans (Ext.alloc _ _)).trans uY
        have xu:=k7.size)
     | (go_at_call 49
        (with_reducible refine(cl _ _).mono ?_)
        rintro e w6 ⟨rfl,zY⟩
        first|(with_reducible have p4:=ag.grow p4 zY)|(with_reducible have p4:=ag.vm zY)|(with_reducible have p4:=ag.vq k7 zY)|skip
        first|(have Ag:=p4.c0;have Af:=p4.c1;have Bb:=p4.free)|skip
        have k7:Ext Q w6:=by first|with_reducible exact k7.trans zY|with_reducible exact vt.trans zY|with_reducible exact(k7.trans (Ext.alloc _ _)).trans zY
        have xu:=k7.size)
     | (go_at_call 48
        (with_reducible refine(gY _ _ _ _ _).mono ?_)
        rw[zP.o];rintro e w7 ⟨rfl,vN⟩
        first|(with_reducible have p4:=ag.grow p4 vN)|(with_reducible have p4:=ag.vm vN)|(with_reducible have p4:=ag.vq k7 vN)|skip
        first|(have Ag:=p4.c0;have Af:=p4.c1;have Bb:=p4.free)|skip
        have k7:Ext Q w7:=by first|with_reducible exact k7.trans vN|with_reducible exact vt.trans vN|with_reducible exact(k7.trans (Ext.alloc _ _)).trans vN
        have xu:=k7.size)
     | fail)
  all_goals(go_wp2_with fail;go_meet;first|exact⟨_,rfl,rfl,ae (p4.put _ _)⟩|exact⟨_,rfl,rfl,ae (ag.new k7 _ _)⟩|exact⟨_,rfl,rfl,ae (ag.new' k7 _ _ e8)⟩)
 obtain⟨g6,rfl,rfl,DT⟩:=hcut;have XC:=X4.o.trans DT.o.ext;have Bz:=ae XC;have Ly:=ae (DT.o.ext.blk DU.o);have Ug:=ae (xE.o.y.ext DT.o.ext);have e0:=DT.o.c0;have e1:=DT.o.c1;clear l0 l1 l2 l3 l4 l5 l6 lf b0 b1;obtain⟨l0,l1,l2,l3,l4,l5,l6,lf⟩:=vH Ly.o
 try simp only at l0 l1 l2 l3 l4 l5 l6
 by_cases hs:rs=1;rotate_left
 ·have HC:=ae (show eh true g ⟨rs,rX,I,rr,(Z,vQ),rp⟩=3 by unfold eh;rw[if_neg e8,if_pos hs]);have G8:(rs != 1)=true:=by simp[hs]
  obtain⟨q0,q1,q2,qf⟩:=CM.o wc XC;obtain⟨z,z0,z1,z2,O⟩:=xD.o wc XC 3 (.slice none 0 0) (.slice none 0 0);have HZ:=ae z;have C0:=ae O;clear z O;go_wp2_with fail;refine bodyPost_ret (v:=.agg #[.int .i64 3,.slice none 0 0,.slice none 0 0]) (by simp[results,Tryz.results19,go_sem,z0,z1,z2]) rfl ⟨⟨_,_,_,_,_,_,by rw[HC.o],fun h=>by rw[HC.o]at h;cases h⟩,HZ.o⟩
 obtain⟨EN,Bu,DD⟩:=xh.o hs
 try simp only at EN Bu DD
 subst hs;have QQ:=ae DD;have Du:=ae EN;clear Bu DD EN;cases one
 ·have HC:=ae (show eh true g ⟨1,rX,I,rr,(Z,vQ),rp⟩=3 by unfold eh;rw[if_neg e8,if_neg e8,CK.o];rfl);obtain⟨q0,q1,q2,qf⟩:=CM.o wc XC;obtain⟨z,z0,z1,z2,O⟩:=xD.o wc XC 3 (.slice none 0 0) (.slice none 0 0);have HZ:=ae z;have C0:=ae O;clear z O;go_wp2_with fail;refine bodyPost_ret (v:=.agg #[.int .i64 3,.slice none 0 0,.slice none 0 0]) (by simp[results,Tryz.results19,go_sem,z0,z1,z2]) rfl ⟨⟨_,_,_,_,_,_,by rw[HC.o],fun h=>by rw[HC.o]at h;cases h⟩,HZ.o⟩
 by_cases Aa:s1<0
 ·have HC:=ae (show eh true g ⟨1,rX,I,rr,(Z,vQ),rp⟩=2 by unfold eh;rw[if_neg e8,if_neg e8,CK.o];simp[Aa]);obtain⟨q0,q1,q2,qf⟩:=CM.o wc XC;obtain⟨z,z0,z1,z2,O⟩:=xD.o wc XC 2 (.slice none 0 0) (.slice xa xn xc);have HZ:=ae z;have C0:=ae O;clear z O;go_wp2_with fail;refine bodyPost_ret (v:=.agg #[.int .i64 2,.slice none 0 0,.slice xa xn xc]) (by simp[results,Tryz.results19,go_sem,z0,z1,z2]) rfl ⟨⟨_,_,_,_,_,_,by rw[HC.o],fun h=>by rw[HC.o]at h;cases h⟩,HZ.o⟩
 have A5:yn=q:=by have h1:=Ug.o.hlen;have h2:=Du.o;(try simp only at h1);omega
 have LQ:=ae A5;have hyn5:yn<=5:=by omega
 have PB:=Ug.o.l8;have hym:=Ug.o.o0;clear A5;obtain⟨w8,FV⟩:=b9 (wc.alloc (.cells #[.int .i64 1,.slice none 0 0,.slice none 0 0] 39));have Oo:Ext wc w8:=by rw[FV];exact Ext.alloc _ _
 have Mc:=ae (show w8.heap[wc.heap.size]?=some (.cells #[.int .i64 1,.slice none 0 0,.slice none 0 0] 39 (0,0))by rw[FV];exact aj _ _ _ rfl);have Ht:=ae (show w8.heap.size=wc.heap.size+1 by rw[FV];simp);go_upto_region 11 with fail;rw[<-FV];clear FV;have hs8:=Oo.size;have K0:=ae Oo;obtain⟨E,VF⟩:=b9 wc.heap.size;have Fs:=ae VF;rw[<-VF]at Mc Ht;rw[<-VF];clear Oo VF;go_wp2_with fail
 go_loopg [9] yn (fun gk ii wr=>∃(k:Nat) (a1:j6) (U p1:Nat),b7 (gk+k=yn)/\ii=.int .i64 (k:Int)/\b7 (l9 wr (E+1) (.slice a1 U p1) ((I.take k).map uU))/\b7 (wr.heap[E]?=some (.cells #[.int .i64 1,.slice a1 U p1,.slice none 0 0] 39 (0,0)))/\b7 (Ext wc wr)/\b7 (E+1<=wr.heap.size))
 case atStart=>exact⟨0,none,0,0,ae e7,rfl,ae (l9.nil _ _),Mc,K0,ae (by rw[Ht.o];exact Nat.le_refl _)⟩
 case round =>
  obtain⟨g1,o6⟩:=b9 gk;subst o6;obtain⟨wr,wR⟩:=b9 wr;subst wR;obtain⟨k,a1,U,p1,HK,rfl,HO,Ak,By,R9⟩:=hrel;have Ig:=ae (By.o.blk Ly.o);clear l0 l1 l2 l3 l4 l5 l6 lf;obtain⟨l0,l1,l2,l3,l4,l5,l6,lf⟩:=vH Ig.o
  try simp only at l0 l1 l2 l3 l4 l5 l6
  obtain⟨m0,m1,m2,mf⟩:=iF Ak.o;by_cases hlt:k<yn
  ·obtain⟨yb,yo,y1,y2,rfl,Ry,xG,Bt⟩:=(Ug.o.ext By.o).at hlt;have hkY:k<I.length:=by rw[Du.o,<-LQ.o];exact hlt
   have Dd:=aL (QQ.o k hkY)
   try simp only at Ry
   rw[Ry]at Dd
   try simp only at Dd
   have xZ:=ae (ug hkY);rw[Ry]at xZ;have Gf:=ae (show((I.take k).map uU).length=k by rw[List.length_map,List.length_take];omega);have J:Ext wr wr.drew:=Ext.drew wr;have k8:=ae (fun(w':World) (h:Ext wr w')=>(⟨h.j9 m1,h.j9 l2,h.j9 xG,h.j9 Bt⟩:w'.cell? ⟨E,1,none⟩=some (.slice a1 U p1)/\w'.cell? ⟨b5,2,none⟩=some (.slice (some ⟨yb,yo,none⟩) yn yc)/\w'.cell? ⟨yb,yo+k*2,none⟩=some (.int .i64 y1)/\w'.cell? ⟨yb,yo+k*2+1,none⟩=some (.int .i64 y2)));have hb5n:b5≠E:=by have:=lt_of_block Ly.o;have:=Fs.o;omega
   have HYB:=ae (show yb<E by
    obtain⟨u1,u2,u3,u4,hu,hu2,hu3,_⟩:=Ug.o.at hlt;simp only[Option.some.injEq,Addr.mk.injEq,and_true]at hu;have h1:=World.block_lt_of_cell? _ _ hu3;have:=Fs.o;simp only at h1
    omega)
   have hhsr:=R9.o;clear Ry;go_wp2_with fail;refine dr (M:=[11]) (S:=fun w'=>w'.cell? ⟨E,1,none⟩=some (.slice a1 U p1)/\w'.cell? ⟨b5,2,none⟩=some (.slice (some ⟨yb,yo,none⟩) yn yc)/\w'.cell? ⟨yb,yo+k*2,none⟩=some (.int .i64 y1)/\w'.cell? ⟨yb,yo+k*2+1,none⟩=some (.int .i64 y2)) e9 ?_;have k9:=k8.o _ J;obtain⟨wd,hwd⟩:=b9 wr.drew;rw[<-hwd]at J k9;rw[<-hwd];clear hwd;have MX:=J.size;refine lp 0 ?_;refine ll 1 ?_;refine lp 2 ?_;refine ll 3 ?_;refine lp 4 ?_;refine lp 5 ?_;refine ll 6 ?_;refine aW (i:=7) (oi:=?_) ?_ ?_ ?_ (fun K hK=>?_);rotate_left
   ·simp only[gA,gB,gC];rfl
   ·kernel_rfl
   ·kernel_rfl
   go_simp;go_at_call 51;refine(eB y1 y2 _ e7 e7).mono ?_;rintro e w9 ⟨rfl,hx9⟩;have J:Ext wr w9:=J.trans hx9;have Ox:=J.size;go_wp2_with fail;refine hK.out _ _ (fun _=>k8.o _ J) ?_;have k9:=k8.o _ J;clear hK K
   try simp only[Act.put,sA,sB,sC]
   refine aW (i:=8) (oi:=?_) ?_ ?_ ?_ (fun K hK=>?_);rotate_left
   ·simp only[gA,gB,gC];rfl
   ·kernel_rfl
   ·kernel_rfl
   go_simp;refine hK.out _ _ (fun _=>k8.o _ (J.trans (Ext.alloc _ _))) ?_;clear hK K
   try simp only[Act.put,sA,sB,sC]
   refine aW (i:=9) (oi:=?_) ?_ ?_ ?_ (fun K hK=>?_);rotate_left
   ·simp only[gA,gB,gC];rfl
   ·kernel_rfl
   ·kernel_rfl
   refine cU _ _ j0 (E+1) (.slice a1 U p1) _ j0 ((HO.o.ext J).ext (Ext.alloc _ _)) _ 1 _ [(-y1,y2)] j0 (Rats.one' _ _ _ _ _ rfl) (by rw[Gf.o];omega) (by simp;omega) ?_;intro v6 DW ho hg l7;obtain⟨a6,n6,p6,rfl,Eh⟩:=ho.var;have yT:=ae ho;have Qp:=(hg.block E (by have:=R9.o;simp;omega) (fun e=>by have:=(HO.o.lt E e.symm).1;omega)).trans ((J.trans (Ext.alloc _ _)).blk Ak.o);obtain⟨u0,u1,u2,uf⟩:=iF Qp;have NN:=ae (ak (By.o.trans (J.trans (Ext.alloc _ _))) hg (fun j hj=>by have:=(HO.o.lt j hj).1;have:=Fs.o;omega));have PR:=hg.size;have TF:=(hg.block b5 (by have:=lt_of_block Ig.o;simp;omega) (fun e=>by have:=(HO.o.lt b5 e.symm).1;have:=lt_of_block Ly.o;have:=Fs.o;omega)).trans ((J.trans (Ext.alloc _ _)).blk Ig.o);have Qj:=(vH TF).2.2.1;have LC:=NN.o;have OC:=J.trans (Ext.alloc w9 (.cells #[.int .i64 (-y1),.int .i64 y2] 62));have Sx:=hg.block yb (by have:=HYB.o;have:=R9.o;have:=OC.size;omega) (fun e=>by have:=(HO.o.lt yb e.symm).1;have:=HYB.o;omega);clear ho hg l7;refine hK.out _ _ (fun _=>And.intro u1 (And.intro Qj (And.intro ((fY Sx _).trans (OC.j9 xG)) ((fY Sx _).trans (OC.j9 Bt))))) ?_;have k9:=And.intro u1 (And.intro Qj (And.intro ((fY Sx _).trans (OC.j9 xG)) ((fY Sx _).trans (OC.j9 Bt))));clear hK K
   try simp only[Act.put,sA,sB,sC]
   refine lp 10 ?_;refine dH (i:=11) (oi:=?_) (w':=?_) ?_ ?_ ?_ ?_ ?_ ?_ ?_;rotate_left 2
   ·simp only[gA,gB,gC];rfl
   ·kernel_rfl
   ·kernel_rfl
   ·exact of_decide_eq_true e9
   ·rfl
   ·go_simp;(try with_reducible rfl)
   try simp only[Act.put,sA,sB,sC]
   refine dM e9 ?_ _;have Hz:=ae (((l9.on yT.o).set (a:=⟨E,1,none⟩) (by show E<E+1;omega) (.slice a6 n6 p6)).here);have En:=ae (show(DW.setCell ⟨E,1,none⟩ (.slice a6 n6 p6)).heap[E]?=some (.cells #[.int .i64 1,.slice a6 n6 p6,.slice none 0 0] 39 (0,0))from heap_setCell_same DW E 1 _ _ _ Qp);have Hr:=ae (NN.o.setCell (p:=⟨E,1,none⟩) (by show wc.heap.size<=E;have:=Fs.o;omega) (.slice a6 n6 p6));obtain⟨DB,FW⟩:=b9 (DW.setCell ⟨E,1,none⟩ (.slice a6 n6 p6));rw[<-FW]at Hz En Hr;have Dw:=ae (show E+1<=DB.heap.size by have:=lt_of_block En.o;omega);go_upto_region 13 with fail;rw[<-FW];clear FW k9 J Qp u0 u1 u2 uf TF Qj LC OC Sx l0 l1 l2 l3 l4 l5 l6 lf m0 m1 m2 mf;go_wp2_with fail
   go_roundg (g1-1)
   case measure=>have:=HK.o;omega
   case rel=>exact⟨k+1,a6,n6,p6,ae (j1 HK.o),by go_num,ae (by rw[<-xZ.o];exact Hz.o),En,Hr,Dw⟩
  ·have vZ:k=yn:=by have:=HK.o;omega
   subst vZ;have hT:I.take k=I:=List.take_of_length_le (by rw[Du.o,<-LQ.o];exact Nat.le_refl _);rw[hT]at HO;have zv:U=q:=by rw[<-HO.o.uZ.hlen,List.length_map];exact Du.o
   have B3:=ae zv;have BR:(I.map uU).length=q:=by rw[List.length_map];exact Du.o
   obtain⟨u,hu⟩:∃u:Nat,u+1=q:=⟨q-1,by omega⟩;have Bl:u<U:=by omega
   have HPU:=ae (show p-1=(u:Int)by have:=wI.o;omega);have LD:IntKind.i64.wrap (p-1)=(u:Int):=by rw[HPU.o,IntKind.wrap_i64];have:=wI.o;omega
   have JS:(0:Int)<=(u:Int):=by omega
   have hul:(u:Int)<(U:Int):=by omega
   obtain⟨G,Ku,Fa,Kd,Ev⟩:=HO.o.block Bl;subst Ku;obtain⟨y0,y1,x1,x2,LC,MK,RA,Rz⟩:=HO.o.uZ.at Bl;simp only[Option.some.injEq,Addr.mk.injEq,and_true]at LC;obtain⟨rfl,rfl⟩:=LC;rw[Nat.zero_add]at RA Rz;obtain⟨k1,k2,two,P4⟩:∃l1 l2 o,we (x1,x2) (s1,s2)=((l1,l2),o):=⟨_,_,_,rfl⟩;have L0:=ae P4
   have zk:=ae (show gj g ⟨1,rX,I,rr,(Z,vQ),rp⟩=((k1,k2),two)by
    unfold gj dC EM;simp only
    rw[BR,show q-1=u by omega,MK,zP.o,P4])
   have Lb:=ae (show Rv g ⟨1,rX,I,rr,(Z,vQ),rp⟩=(I.map uU).set u (k1,k2)by
    unfold Rv EM;simp only
    rw[zk.o,BR,show q-1=u by omega])
   have Zr:=ae (show u<(I.map uU).length by rw[BR];omega)
   have Gr:=ae (show eh true g ⟨1,rX,I,rr,(Z,vQ),rp⟩=if two=true then 1 else 3 by
    unfold eh;rw[if_neg e8,if_neg e8,CK.o,zk.o];simp;intro h
    omega)
   have e0':=By.o.j9 e0;have Iv:=By.o.j9 e1;have p0:=(Bz.o.trans By.o).j9 Bh.o;have YD:=HO.o.uZ.l8;have XH:=HO.o.uZ.o0;have MV:=R9.o;have hwcs:=By.o.size;clear P4 MK hu BR zv hT;go_upto_region 15 with fail
   go_cut [10,11] (fun sx so wx=>∃gb:Nat,sx=.pointer (some ⟨gb,0,none⟩)/\so=.bool two/\b7 (ag wr wx gb k1 k2))
   case first =>
    have k7:Ext wr wr.drew:=Ext.drew wr;have vt:Ext wr (wr.alloc (.cells #[.int .i64 0,.int .i64 0] 62)).drew:=(Ext.alloc _ _).trans (Ext.drew _);have k8:=ae (fun(w':World) (h:Ext wr w')=>(⟨h.j9 RA,h.j9 Rz,h.j9 m1,h.j9 p0,h.j9 e0',h.j9 Iv,h⟩:w'.cell? ⟨G,u*2,none⟩=some (.int .i64 x1)/\w'.cell? ⟨G,u*2+1,none⟩=some (.int .i64 x2)/\w'.cell? ⟨E,1,none⟩=some (.slice (some ⟨G,0,none⟩) U p1)/\w'.cell? ⟨w.heap.size,0,none⟩=some (.int .i64 p)/\w'.cell? ⟨g6,0,none⟩=some (.int .i64 s1)/\w'.cell? ⟨g6,1,none⟩=some (.int .i64 s2)/\Ext wr w'))
    go_region_held3 (fun w'=>w'.cell? ⟨G,u*2,none⟩=some (.int .i64 x1)/\w'.cell? ⟨G,u*2+1,none⟩=some (.int .i64 x2)/\w'.cell? ⟨E,1,none⟩=some (.slice (some ⟨G,0,none⟩) U p1)/\w'.cell? ⟨w.heap.size,0,none⟩=some (.int .i64 p)/\w'.cell? ⟨g6,0,none⟩=some (.int .i64 s1)/\w'.cell? ⟨g6,1,none⟩=some (.int .i64 s2)/\Ext wr w')
     (first
       | with_reducible exact k8.o _ k7
       | with_reducible exact k8.o _ vt
       | with_reducible exact k8.o _ ((k7.setCell (by first|(simp;done)|(simp;omega)) _).setCell (by first|(simp;done)|(simp;omega)) _)
       | with_reducible exact k8.o _ (k7.trans (Ext.alloc _ _))
       | with_reducible exact k8.o _ (p4.put _ _).ext)
     (first
       | (go_at_call 48
          (with_reducible refine(gY _ _ _ _ _).mono ?_)
          rw[L0.o];rintro e Pl ⟨rfl,xR⟩
          first|(with_reducible have p4:=ag.grow p4 xR)|(with_reducible have p4:=ag.vm xR)|(with_reducible have p4:=ag.vq k7 xR)|skip
          first|(have Ag:=p4.c0;have Af:=p4.c1;have Bb:=p4.free)|skip
          have k7:Ext wr Pl:=by first|with_reducible exact k7.trans xR|with_reducible exact vt.trans xR|with_reducible exact(k7.trans (Ext.alloc _ _)).trans xR
          have xu:=k7.size)
       | fail)
    all_goals(go_wp2_with fail;go_meet;first|exact⟨_,rfl,rfl,ae (p4.put _ _)⟩|exact⟨_,rfl,rfl,ae (ag.new k7 _ _)⟩|exact⟨_,rfl,rfl,ae (ag.new' k7 _ _ e8)⟩)
   obtain⟨gb,rfl,rfl,HB⟩:=hcut;have XD:=(Bz.o.trans By.o).trans HB.o.ext;have HXD:=ae XD;have f0:=HB.o.c0;have f1:=HB.o.c1;have p0':=HB.o.ext.j9 p0;have wG:=ae (HO.o.ext HB.o.ext);have Ce:=ae (HB.o.ext.blk Ak.o);obtain⟨n0,n2,n3,nf⟩:=iF Ce.o;have hwcs2:=HB.o.ext.size;clear RA Rz e0' Iv p0 m0 m1 m2 mf Kd e0 e1 XC;cases two
   ·have HC:=ae (show eh true g ⟨1,rX,I,rr,(Z,vQ),rp⟩=3 by rw[Gr.o];rfl);obtain⟨q0,q1,q2,qf⟩:=CM.o wc XD;obtain⟨z,z0,z1,z2,O⟩:=xD.o wc XD 3 (.slice none 0 0) (.slice none 0 0);have HZ:=ae z;have C0:=ae O;clear z O;go_wp2_with fail;refine bodyPost_ret (v:=.agg #[.int .i64 3,.slice none 0 0,.slice none 0 0]) (by simp[results,Tryz.results19,go_sem,z0,z1,z2]) rfl ⟨⟨_,_,_,_,_,_,by rw[HC.o],fun h=>by rw[HC.o]at h;cases h⟩,HZ.o⟩
   ·have HC:=ae (show eh true g ⟨1,rX,I,rr,(Z,vQ),rp⟩=1 by rw[Gr.o];rfl);obtain⟨gp,Nb,Tv,Kd,hgl2⟩:=wG.o.block Bl;simp only[Option.some.injEq,Addr.mk.injEq,and_true]at Nb;subst Nb;obtain⟨y3,y4,y5,y6,LC,_,PB,Sz⟩:=wG.o.uZ.at Bl;simp only[Option.some.injEq,Addr.mk.injEq,and_true]at LC;obtain⟨rfl,rfl⟩:=LC;rw[Nat.zero_add]at PB Sz;have Dy:=ae (wG.o.set Zr.o k1 k2);have hxb8:G≠E:=by omega
    have Em:=ae (show((wc.setCell ⟨G,u*2,none⟩ (.int .i64 k1)).setCell ⟨G,u*2+1,none⟩ (.int .i64 k2)).heap[E]?=some (.cells #[.int .i64 1,.slice (some ⟨G,0,none⟩) U p1,.slice none 0 0] 39 (0,0))from
     ((heap_setCell_other _ _ _ _ (by show E≠G;omega)).trans (heap_setCell_other _ _ _ _ (by show E≠G;omega))).trans Ce.o)
    have SH:W.heap.size<=G:=by have:=Bz.o.size;have:=Fs.o;omega
    have XP:Ext W ((wc.setCell ⟨G,u*2,none⟩ (.int .i64 k1)).setCell ⟨G,u*2+1,none⟩ (.int .i64 k2)):=(XD.setCell (p:=⟨G,u*2,none⟩) SH _).setCell (p:=⟨G,u*2+1,none⟩) SH _;obtain⟨wp,JN⟩:=b9 ((wc.setCell ⟨G,u*2,none⟩ (.int .i64 k1)).setCell ⟨G,u*2+1,none⟩ (.int .i64 k2));rw[<-JN]at Dy XP Em;rw[<-Lb.o]at Dy;go_upto_region 19 with fail;rw[<-JN];clear JN PB Sz Kd f0 f1 XD n0 n2 n3 nf;obtain⟨n0,n2,n3,nf⟩:=iF Em.o;obtain⟨q0,q1,q2,qf⟩:=CM.o wp XP;obtain⟨z,z0,z1,z2,O⟩:=xD.o wp XP 1 (.slice (some ⟨G,0,none⟩) U p1) (.slice none 0 0);have HZ:=ae z;have C0:=ae O;clear z O;go_wp2_with fail;refine bodyPost_ret (v:=.agg #[.int .i64 1,.slice (some ⟨G,0,none⟩) U p1,.slice none 0 0]) (by simp[results,Tryz.results19,go_sem,z0,z1,z2]) rfl ⟨⟨_,_,_,_,_,_,by rw[HC.o],fun _=>(Dy.o.mono (by have:=Bz.o.size;have:=Fs.o;omega)).keep fun k hk=>C0.o k (by have:=(Dy.o.lt k hk).1;have:=Bz.o.size;have:=Fs.o;omega)⟩,HZ.o⟩
end Go.Proofs.YtdadoignenffgaaGreatDoor
