import Derived.Test.YtdadoignenffgaaGreatDoorSvAllG37
import Derived.Test.YtdadoignenffgaaGreatDoorSvAllG41
import Derived.Test.YtdadoignenffgaaGreatDoorSvAllG38
import Derived.Test.YtdadoignenffgaaGreatDoorSvAllG16
set_option linter.unusedVariables false
set_option linter.unusedSimpArgs false
namespace Go.Proofs.YtdadoignenffgaaGreatDoor
set_option maxHeartbeats 16000000
set_option maxRecDepth 100000
open Go.RowKit
theorem o5.Wu(w:World)(base:Nat)(x:Int)(hb:base<=w.heap.size):o5 (w.alloc (.cells #[.int .i64 x] 3)) base (.slice (some ⟨w.heap.size,0,none⟩) 1 1) [x] :=
 World.ownsRow_lit w #[.int .i64 x] 1 hb (by simp[maxLen]) rfl
theorem l9.Ww(w:World)(base:Nat)(x y:Int)(hb:base<=w.heap.size):l9 (w.alloc (.cells #[.int .i64 x,.int .i64 y] 62)) base (.slice (some ⟨w.heap.size,0,none⟩) 1 1) [(x,y)] :=
 ⟨by simp[yP],.inr ⟨w.heap.size,1,_,rfl,hb,heap_alloc_new w _,Nat.le_refl _,by decide,rfl,by simp[yP]⟩⟩
theorem lG{w:World}{p:Int}{a:j6}{n cap:Nat}{V:j7}(h:Ints w a n cap V):
 Calls Tryz.prog 28 #[pair p a n cap] w fun e w'=>fh w' w.heap.size e (zr p V)/\Ext w w':=by
 obtain⟨W,hW⟩:=b9 ((w.alloc (.cells #[.int .i64 p,.slice a n cap] 32)).alloc (.cells #[.bool false,.slice none 0 0,.slice none 0 0,.int .i64 0] 44));have WI:W.heap.size=w.heap.size+2:=by rw[hW];simp
 have hX:Ext w W:=by rw[hW];exact(Ext.alloc _ _).trans (Ext.alloc _ _)
 have wi:=ae (show W.heap[w.heap.size+1]?=some (.cells #[.bool false,.slice none 0 0,.slice none 0 0,.int .i64 0] 44 (0,0))by rw[hW];exact aj _ _ _ e8);have Bh:=ae (show W.cell? ⟨w.heap.size,0,none⟩=some (.int .i64 p)by rw[hW];exact Ext.j9 (Ext.alloc _ _) e8);have Ee:=ae (show W.cell? ⟨w.heap.size,1,none⟩=some (.slice a n cap)by rw[hW];exact Ext.j9 (Ext.alloc _ _) e8);have HI:=ae (h.ext hX);have HX:=ae hX;have xJ:=ae h.hlen;have N0:=ae (dR (p:=p) HI.o);have xD:=ae (fun(w':World) (hx:Ext W w') (v0 v1 v2 v3:Value)=>yC (Mx ((hx.block _ e7).trans wi.o) v0 v1 v2 v3).1);have El:=ae (fun(w':World) (hx:Ext W w') (v0 v1 v2 v3:Value)=>Oi (w:=w) (r:=w.heap.size+1) (HX.o.trans hx) (Nat.le_succ _) v0 v1 v2 v3);have Lq:=ae (fun(w':World) (hx:Ext W w') (v0 v1 v2 v3:Value)=>(Mx ((hx.block (w.heap.size+1) e7).trans wi.o) v0 v1 v2 v3).2);have CM:=ae (fun(w':World) (hx:Ext W w')=>yC ((hx.block _ e7).trans wi.o));clear h hX;cases hgo:aH p V
 ·rw[hgo]at N0;have HN:=ae (show zr p V=AE.no by unfold zr;rw[hgo];rfl);clear hgo;go_enter Tryz.func28,Tryz.ntmps28
  go_wp2_with fail;rw[<-hW];refine N0.o.mono ?_;rintro e w1 ⟨rfl,hx⟩;obtain⟨q0,q1,q2,q3,qf⟩:=CM.o w1 hx;obtain⟨z0,z1,z2,z3,_⟩:=xD.o w1 hx (.bool false) (.slice none 0 0) (.slice none 0 0) (.int .i64 0);have HZ:=ae (El.o w1 hx (.bool false) (.slice none 0 0) (.slice none 0 0) (.int .i64 0));clear hx hW;go_wp2_with fail;refine bodyPost_ret (v:=.agg #[.bool false,.slice none 0 0,.slice none 0 0,.int .i64 0]) (by simp[results,Tryz.results28,go_sem,z0,z1,z2,z3]) rfl ⟨by rw[HN.o];exact fh.no _ _,HZ.o⟩
 ·rw[hgo]at N0;obtain⟨h1,QC,vK,Ao,CU,hV⟩:=gF hgo;obtain⟨q,hq⟩:=b9 p.toNat;rw[<-hq]at vK Ao CU;have N3:=ae hgo;have zv:1<=n:=by rw[<-xJ.o];exact h1
  have BS:n<=32:=by rw[<-xJ.o];exact QC
  obtain⟨g,hg⟩:=b9 (bI p V);have HG:=ae hg;have CQ:=ae (fun(w':World) (hx:Ext W w')=>jr (p:=p) (HI.o.ext hx));simp only[<-hg]at CQ;clear hgo hq hV h1 QC hg;by_cases An:p=1
  ·subst An;clear vK;have HN:=ae (show zr 1 V=⟨true,[(g,1)],[],0⟩by unfold zr;rw[if_pos N3.o,if_pos j0,<-HG.o]);go_enter Tryz.func28,Tryz.ntmps28
   go_wp2_with fail;rw[<-hW];refine N0.o.mono ?_;rintro e w1 ⟨rfl,hx⟩;have c0:=hx.j9 Bh.o;have c1:=hx.j9 Ee.o;have X1:=ae hx;clear hx hW;go_wp2_with fail;refine(CQ.o _ X1.o).mono ?_;rintro e w2 ⟨rfl,vL⟩;go_wp2_with fail;refine(cv g _).mono ?_;rintro e w3 ⟨rfl,vj⟩;have vW:=vL.trans vj;have X4:=ae (X1.o.trans (vW.trans (Ext.alloc w3 (.cells #[.int .i64 g,.int .i64 1] 62))));obtain⟨q0,q1,q2,q3,qf⟩:=CM.o _ X4.o;obtain⟨z0,z1,z2,z3,_⟩:=xD.o _ X4.o (.bool true) (.slice (some ⟨w3.heap.size,0,none⟩) 1 1) (.slice none 0 0) (.int .i64 0);have HZ:=ae (El.o _ X4.o (.bool true) (.slice (some ⟨w3.heap.size,0,none⟩) 1 1) (.slice none 0 0) (.int .i64 0));have C0:=ae (Lq.o _ X4.o (.bool true) (.slice (some ⟨w3.heap.size,0,none⟩) 1 1) (.slice none 0 0) (.int .i64 0));have Cs:=(X1.o.trans vW).size;have Lb:=ae ((l9.Ww w3 w.heap.size g 1 e7).keep (fun k hk=>C0.o k (by simp only[Value.ownBlock,Option.some.injEq]at hk;omega)));clear vL vj vW c0 c1;go_wp2_with fail;refine bodyPost_ret (v:=.agg #[.bool true,.slice (some ⟨w3.heap.size,0,none⟩) 1 1,.slice none 0 0,.int .i64 0]) (by simp[results,Tryz.results28,go_sem,z0,z1,z2,z3]) rfl ⟨by rw[HN.o];exact⟨_,_,_,_,_,_,rfl,Lb.o,uT.nil _ _ _ _⟩,HZ.o⟩
  ·subst vK;have PU:2<=(q:Int):=by omega
   have Oz:((q:Int) == 1)=false:=by simp[An]
   have FU:IntKind.i64.wrap ((n:Int)-1)=(n:Int)-1:=by rw[IntKind.wrap_i64];omega
   have HN:=ae (sO N3.o PU);obtain⟨o,O⟩:=b9 (zr (q:Int) V);rw[<-O]at HN⊢;have HQ:=ae An;clear O An PU;go_enter Tryz.func28,Tryz.ntmps28
   go_wp2_with fail;rw[<-hW];refine N0.o.mono ?_;rintro e w1 ⟨rfl,hx⟩;have c0:=hx.j9 Bh.o;have c1:=hx.j9 Ee.o;have X1:=ae hx;obtain⟨w2,AM⟩:=b9 (w1.alloc (.cells #[.bool true,.slice none 0 0,.slice none 0 0,.int .i64 0] 44));have wU:w2.heap[w1.heap.size]?=some (.cells #[.bool true,.slice none 0 0,.slice none 0 0,.int .i64 0] 44 (0,0)):=by rw[AM];exact aj _ _ _ rfl
   have vL:Ext w1 w2:=by rw[AM];exact Ext.alloc _ _
   have X2:=ae (hx.trans vL);have Ql:=hx.size;clear hx hW;go_upto_region 6 with fail;rw[<-AM];clear AM;have d0:=vL.j9 c0;have d1:=vL.j9 c1;clear c0 c1 vL;generalize w1.heap.size=B at wU Ql⊢
   have O4:=ae (show wB W (w2.alloc (.cells #[.int .i64 ((n:Int)-1)] 3)) B (.slice none 0 0) (.slice none 0 0) (.slice (some ⟨w2.heap.size,0,none⟩) 1 1) [] [] (((n:Int)-1)::[].map fun f:Int×Int×Int=>f.1) 0 from
    ⟨(Ext.alloc _ _).blk wU,l9.nil _ _,uT.nil _ _ _ _,o5.Wu _ _ _ (j1 (lt_of_block wU)),X2.o.trans (Ext.alloc _ _),Ql⟩)
   clear wU;go_wp2_with fail
   go_loopg [4] ((wM V []).length+1) (fun gk ff wr=>∃(k:Nat) (L:j2) (pt:j4) (vp vs:Value) (aF:j6) (nF cF:Nat),b7 (gk+k=(wM V []).length+1)/\ff=.slice aF nF cF/\b7 (wB W wr B vp vs (.slice aF nF cF) pt L (((n:Int)-1)::L.map fun f=>f.1) k)/\b7 ((wM V L).length+1<=gk)/\b7 (∀f∈L,f.1<=1000)/\b7 (L.length<=32*k)/\b7 (BO (q:Int) V gk pt L k=o))
   case atStart=>exact⟨0,[],[],_,_,_,_,_,ae e7,rfl,O4,ae (Nat.le_refl _),ae (fun f hf=>by cases hf),ae e8,HN⟩
   case round =>
    obtain⟨g1,o6⟩:=b9 gk;subst o6;obtain⟨o8,o4⟩:=b9 wr;subst o4;obtain⟨k,L,pt,vp,vs,aF,nF,cF,HK,rfl,HO,L5,xi,xg,Gl⟩:=hrel;obtain⟨aP,nP,cP,rfl,HNP⟩:=HO.o.pt.var;obtain⟨aS,nS,cS,rfl,Rd⟩:=HO.o.st.var;have HFR0:=ae (show(wM V []).length<=32 by have h1:(wM V []).length<=V.length-2:=dA [] (V.length-2);have h2:=xJ.o;omega);have hk33:k<=33:=by have h1:=HK.o;have h2:=HFR0.o;omega
    have hnS:nS<=1100:=by rw[<-Rd.o];have:=xg.o;omega
    have hnF:nF<=1101:=by
     have h1:=HO.o.fx.ints.hlen;simp only[List.length_cons,List.length_map]at h1;have:=xg.o;omega
    obtain⟨rk,PT⟩:=b9 (eC (q:Int) (((n:Int)-1)::L.map fun f=>f.1));have Iy:=ae (fun(w':World) (hx:Ext o8 w')=>JE (n:=(q:Int)) (HO.o.fx.ext hx).ints (KE (V:=V) e7 xi.o) e7);simp only[<-PT]at Iy;have hrle:rk<=(q:Int):=by rw[PT];exact Je e7 _
    have HDN:=ae (show dX (q:Int) V L=decide (rk=(q:Int))by rw[PT];unfold dX;rw[xJ.o]);have c0:=HO.o.ext.j9 Bh.o;have hk:Ext o8 o8.drew:=Ext.drew o8;clear PT;by_cases Ni:rk<(q:Int)
    ·have Ic:=ae (show dX (q:Int) V L=false by rw[HDN.o];exact decide_eq_false e7);have hdd:decide (rk<(q:Int))=true:=decide_eq_true Ni;go_wp2_with fail;refine wp_region_held_drew (S:=(fun w'=>w'.cell? ⟨w.heap.size,0,none⟩=some (.int .i64 (q:Int))/\Ext o8 w')) e9 ?_ (fun k9=>?_)
     ·exact⟨hk.j9 c0,hk⟩
     refine tk 0 ?_;refine tk 1 ?_;refine tk 2 ?_;refine tk 4 ?_;refine tk 5 ?_;refine rd (i:=3) (h:=fun K hK=>?_);go_simp
     (go_at_call 79;refine(Iy.o _ hk).mono ?_;rintro e w3 ⟨rfl,vj⟩;have hk:=hk.trans vj)
     go_wp2_with fail;refine hK.out _ _ ?_ (fun k9=>?_)
     ·exact⟨hk.j9 c0,hk⟩
     clear hK K
     try simp only[Act.put,sA,sB,sC]
     refine tk 6 ?_;refine wpAnyH_done e9 ?_ _;have vi:=ae (HO.o.grow hk);have X3:=ae vi.o.ext;obtain⟨b0,b1,b2,b3,bf⟩:=yC vi.o.box;have e0:=X3.o.j9 Bh.o;have e1:=X3.o.j9 Ee.o;have D':=ae (tS (p:=(q:Int)) (HI.o.ext X3.o) vi.o.st.Fh e7);obtain⟨ok,wj⟩:=b9 (wu (q:Int) V L);rw[<-wj]at D';have xN:=ae wj;clear hk c0 k9 wj;go_wp2_with fail;refine D'.o.mono ?_;rintro e w4 ⟨Ha,vW⟩;obtain⟨la,C9,Dc,lb,C8,Db,lc,C7,Da,rfl,Hd⟩:=Ha.lpc;unfold Al;obtain⟨w5,DE⟩:=b9 (w4.alloc (aV la C9 Dc lb C8 Db lc C7 Da));have wX:Ext w4 w5:=by rw[DE];exact Ext.alloc _ _
     have K5:=ae (vW.trans wX);have X5:=ae (X3.o.trans K5.o);go_upto_region 9 with fail;rw[<-DE];cases ok
     ·have B2:=ae (show o=AE.no by
       rw[<-Gl.o]
       exact rB Ic.o (fun h=>by rw[<-xN.o]at h;exact Bool.noConfusion h.1))
      obtain⟨q0,q1,q2,q3,qf⟩:=CM.o w5 X5.o;obtain⟨z0,z1,z2,z3,_⟩:=xD.o w5 X5.o (.bool false) (.slice none 0 0) (.slice none 0 0) (.int .i64 0);have HZ:=ae (El.o w5 X5.o (.bool false) (.slice none 0 0) (.slice none 0 0) (.int .i64 0));clear DE wX vW Hd Ha b0 b1 b2 b3 bf e0 e1;go_wp2_with fail;refine bodyPost_ret (v:=.agg #[.bool false,.slice none 0 0,.slice none 0 0,.int .i64 0]) (by simp[results,Tryz.results28,go_sem,z0,z1,z2,z3]) rfl ⟨by rw[B2.o];exact fh.no _ _,HZ.o⟩
     ·obtain⟨E1,E2,E3⟩:=mN xN.o.symm;rw[E1,E2,E3,Int.toNat_natCast]at Hd;have Gh:=nk (Hd.ext wX);obtain⟨r,hr⟩:=b9 (bQ q V L);rw[show be am (stA q V L) (Gs q) (BF V L)=r from hr.symm]at Gh;have CJ:=ae Gh;have zE:=ae hr;have t0:=al (show w5.heap[w4.heap.size]?=some (.cells #[.slice la C9 Dc,.slice lb C8 Db,.slice lc C7 Da] 68 (0,0))by rw[DE];exact aj _ _ _ rfl);have t1:=au (show w5.heap[w4.heap.size]?=some (.cells #[.slice la C9 Dc,.slice lb C8 Db,.slice lc C7 Da] 68 (0,0))by rw[DE];exact aj _ _ _ rfl);have t2:=av (show w5.heap[w4.heap.size]?=some (.cells #[.slice la C9 Dc,.slice lb C8 Db,.slice lc C7 Da] 68 (0,0))by rw[DE];exact aj _ _ _ rfl);have CL:=ae K5.o.size;clear E1 E2 E3 Gh hr DE wX vW Hd Ha b0 b1 b2 b3 bf e0 e1;go_wp2_with fail;refine CJ.o.mono ?_;rintro e w6 ⟨⟨xa,xn,xc,ya,yn,yc,ra,rn,rc,rfl,AW⟩,FT⟩;obtain⟨w7,Am⟩:=b9 (w6.alloc (bH r xa xn xc ya yn yc ra rn rc));have Il:Ext w6 w7:=by rw[Am];exact Ext.alloc _ _
      have K7:=ae ((K5.o.trans FT).trans Il);have X7:=ae (X3.o.trans K7.o);have xE:=ae ((AW.ext Il).mono CL.o);have BE:=ae (show w7.heap[w6.heap.size]?=some (bH r xa xn xc ya yn yc ra rn rc)by rw[Am];exact aj _ _ _ rfl);have GV:=ae (show w3.heap.size<=w6.heap.size by have h1:=FT.size;have h2:=CL.o;omega)
      have VU:=ae (fun(hs:r.status=1)=>show(wM V L).length<=r.X.length/\r.Y.length=q+1/\o9 r.value=true/\∀k,k<r.Y.length->o9 (r.Y[k]?.getD (0,0))=true by
       have:=nG (p:=(q:Int)) xN.o.symm (by rw[Int.toNat_natCast,<-zE.o];exact hs);rw[Int.toNat_natCast,<-zE.o]at this
       exact this)
      have Lf:=ae (fun(hs:r.status=1) (f:Nat)=>show BO (q:Int) V (f+1) pt L k=BO (q:Int) V f (Vo q r) (de V L r) (k+1)/\(wM V (de V L r)).length<(wM V L).length by
       have h1:=ul (f:=f) (k:=k) (pt:=pt) Ic.o xN.o.symm (by rw[Int.toNat_natCast,<-zE.o];exact hs);have h2:=lP xN.o.symm (by rw[Int.toNat_natCast,<-zE.o];exact hs);rw[Int.toNat_natCast,<-zE.o]at h1 h2
       exact⟨h1,h2⟩)
      obtain⟨rs,Q,J,U,⟨E,I⟩,Z⟩:=r;unfold zg;go_upto_region 12 with fail;rw[<-Am];clear AW FT Il Am t0 t1 t2;generalize w6.heap.size=G at BE GV⊢;have Hl:=lt_of_block BE.o;obtain⟨l0,l1,l2,l3,l4,l5,l6,lf⟩:=vH BE.o
      try simp only at l0 l1 l2 l3 l4 l5 l6
      by_cases hs:rs=1
      ·subst hs;obtain⟨Ik,EN,Bu,DD⟩:=VU.o rfl
       try simp only at Ik EN Bu DD
       have xK:=aL Bu
       try simp only at xK
       have QR:=ae Ik;have Du:=ae EN;have QQ:=ae DD;have A5:q<=yn:=by have h1:=xE.o.y.here.hlen;have h2:=Du.o;(try simp only at h1);omega
       have PB:(q:Int)<=(yc:Int):=by have h1:=xE.o.y.here.l8;omega
       have ZT:=ae (lK (xE.o.y.here.take A5) e7 (fun i=>by
        by_cases hi:i<q
        ·rw[List.getElem?_take,if_pos hi]
         show -9223372036854775807<=(J[i]?.getD (0,0)).1/\(J[i]?.getD (0,0)).1<=9223372036854775807;have:=aL (QQ.o i (by rw[Du.o];omega));omega
        ·rw[List.getElem?_take,if_neg hi];simp))
       have e0:=X7.o.j9 Bh.o;have e1:=X7.o.j9 Ee.o;clear Ik EN Bu DD;go_wp2_with fail;refine ZT.o.mono ?_;rintro e w8 ⟨⟨v,rfl,O⟩,Oo⟩;obtain⟨a8,n8,p8,rfl,Eg⟩:=O.var;have FD:=ae (vi.o.grow (K7.o.trans Oo));obtain⟨b0,b1,b2,b3,bf⟩:=yC FD.o.box;have Cd:=ae vi.o.lt;have HP8:=ae (O.mono (show B+1<=w7.heap.size by have h1:=vi.o.lt;have h2:=K7.o.size;omega));have Ht:=ae ((yg.refl w3.heap.size w7).ext Oo);have K0:=ae Oo;obtain⟨w9,Oq⟩:=b9 (w8.setCell ⟨B,1,none⟩ (.slice a8 n8 p8));have Dz:=ae (FD.o.Pp HP8.o);rw[<-Oq]at Dz;have Gi:=ae (Ht.o.set (j:=1) Cd.o (.slice a8 n8 p8));rw[<-Oq]at Gi;clear O Oo;go_upto_region 15 with fail;rw[<-Oq];clear Oq b0 b1 b2 b3 bf e0 e1;obtain⟨k1,yx⟩:∃x:Int,x=(k:Int)+1:=⟨_,rfl⟩;have WJ:IntKind.i64.wrap ((k:Int)+1)=k1:=by rw[IntKind.wrap_i64];omega
       have U4:=ae (show k1=((k+1:Nat):Int)by omega);clear yx;obtain⟨b0,b1,b2,b3,bf⟩:=yC Dz.o.box;obtain⟨DW,MN⟩:=b9 (w9.setCell ⟨B,3,none⟩ (.int .i64 k1));have Aj:=ae (Dz.o.Sl (k':=k+1) U4.o);rw[<-MN]at Aj;have Fi:=ae (Gi.o.set (j:=3) Cd.o (.int .i64 k1));rw[<-MN]at Fi;go_upto_region 16 with fail;rw[<-MN];clear MN b0 b1 b2 b3 bf WJ;obtain⟨b0,b1,b2,b3,bf⟩:=yC Aj.o.box;have e0:=Aj.o.ext.j9 Bh.o;have e1:=Aj.o.ext.j9 Ee.o;have Fx:3<=n:=by
        obtain⟨q',hq',MY,Xh,Vx,_⟩:=bF N3.o;have h4:=GK (n:=q') (j1 HQ.o) Xh;have:=xJ.o;omega
       have Fp:=ae (gU (q:Int) a n cap Fx e7 Aj.o.st.Fh);go_wp2_with fail;refine Fp.o.mono ?_;rintro e DB ⟨⟨v,rfl,O⟩,Df⟩;obtain⟨Zd,m,c11,rfl,HM⟩:=O.var;have Hz:=ae (Aj.o.grow Df);have Dw:=ae (Fi.o.ext Df);have Lo:=ae (show aN L (n-2)=wM V L by unfold wM;rw[xJ.o]);rw[Lo.o]at O HM;have N5:=ae (O.mono (show w3.heap.size<=DW.heap.size by have h1:=Fi.o.size;have h2:=K7.o.size;omega));have O9:=ae (Dw.o.on xE.o.x);have En:=ae (Dw.o.blk GV.o BE.o);have Ra:=ae (Off.of (hi:=DB.heap.size) vi.o.st.lt (Nat.le_refl _));have O3:=ae (Off.of (hi:=DB.heap.size) vi.o.fx.lt (Nat.le_refl _));have hmx:m<=xn:=by have h1:=O9.o.here.hlen;have h2:=QR.o;have h3:=HM.o;(try simp only at h1);omega
       have PZ:m<=32:=by
        have h1:(wM V L).length<=V.length-2:=dA L (V.length-2);have h2:=xJ.o;have h3:=HM.o;omega
       have Q8:=ae (show(L++xq (wM V L) ⟨1,Q,J,U,(E,I),Z⟩ 0)=L by rw[nD,List.append_nil]);clear O Df b0 b1 b2 b3 bf e0 e1 l0 l1 l2 l3 l4 l5 l6 lf;go_wp2_with fail
       go_loopg [4,67] m (fun gk ff ii wr=>∃(j:Nat) (vs':Value) (Zc:j6) (nF' Y5:Nat),b7 (gk+j=m)/\ff=.slice Zc nF' Y5/\ii=.int .i64 (j:Int)/\b7 (wB W wr B (.slice a8 n8 p8) vs' (.slice Zc nF' Y5) ((J.take q).map uU) (L++xq (wM V L) ⟨1,Q,J,U,(E,I),Z⟩ j) (((n:Int)-1)::(L++xq (wM V L) ⟨1,Q,J,U,(E,I),Z⟩ j).map fun f=>f.1) (k+1))/\b7 (yg w3.heap.size DB wr)/\b7 (Off w3.heap.size DB.heap.size vs')/\b7 (Off w3.heap.size DB.heap.size (.slice Zc nF' Y5)))
       case atStart=>exact⟨0,_,_,_,_,ae e7,rfl,rfl,ae (by rw[Q8.o];exact Hz.o),ae (yg.refl _ _),Ra,O3⟩
       case round =>
        obtain⟨g2,wv⟩:=b9 gk;subst wv;obtain⟨wr2,vo⟩:=b9 wr;subst vo;obtain⟨j,vs2,aF2,nF2,cF2,HJ,rfl,rfl,wG,yX,Q',Hx⟩:=hrel;obtain⟨Zb,Wr,cS2,rfl,HNS2⟩:=wG.o.st.var;by_cases Cw:j<m
        ·have XV:j<xn:=by omega
         obtain⟨fb,CE,Ng,Qb⟩:=(yX.o.ints (Nat.le_refl _) N5.o).ints.at Cw;subst Ng;obtain⟨xb,II,x1,x2,MK,PC,WC,WB⟩:=(yX.o.on O9.o).here.at XV;subst MK;obtain⟨l0,l1,l2,l3,l4,l5,l6,lf⟩:=vH (yX.o.blk GV.o En.o)
         try simp only at l0 l1 l2 l3 l4 l5 l6 PC
         obtain⟨s,hs⟩:=b9 ((wM V L)[j]?.getD 0);rw[<-hs]at Qb;by_cases uS:0<x1
         ·have IA:=ae (show(L++xq (wM V L) ⟨1,Q,J,U,(E,I),Z⟩ j)++[(s,-E,I)]=L++xq (wM V L) ⟨1,Q,J,U,(E,I),Z⟩ (j+1)by
           rw[io,if_pos (by show 0<(Q[j]?.getD (0,0)).1;rw[PC];exact uS),<-hs,List.append_assoc])
          obtain⟨b0,b1,b2,b3,bf⟩:=yC wG.o.box
          have Lg:=ae (show(L++xq (wM V L) ⟨1,Q,J,U,(E,I),Z⟩ j).length<=2000 by
           rw[List.length_append];have h1:=iT (wM V L) ⟨1,Q,J,U,(E,I),Z⟩ j;have h2:=xg.o
           omega)
          have Ig:=ae wG.o.lt;clear hs;go_wp2_with fail;have wH:Ext wr2 wr2.drew:=Ext.drew wr2;have k8:=ae (fun(w':World) (h:Ext wr2 w')=>(⟨h.j9 b2,h.j9 l4,h.j9 l5⟩:w'.cell? ⟨B,2,none⟩=some (.slice Zb Wr cS2)/\w'.cell? ⟨G,4,none⟩=some (.int .i64 E)/\w'.cell? ⟨G,5,none⟩=some (.int .i64 I)));refine dr (M:=[10]) (S:=fun w'=>w'.cell? ⟨B,2,none⟩=some (.slice Zb Wr cS2)/\w'.cell? ⟨G,4,none⟩=some (.int .i64 E)/\w'.cell? ⟨G,5,none⟩=some (.int .i64 I)) e9 ?_;have k9:=k8.o _ wH;obtain⟨wd,hwd⟩:=b9 wr2.drew;rw[<-hwd]at wH k9;rw[<-hwd];clear hwd;refine lp 0 ?_;refine ll 1 ?_;refine lp 2 ?_;refine lp 3 ?_;refine ll 4 ?_;refine aW (i:=5) (oi:=?_) ?_ ?_ ?_ (fun K hK=>?_);rotate_left
          ·simp only[gA,gB,gC];rfl
          ·kernel_rfl
          ·kernel_rfl
          go_simp;go_at_call 74;refine(dS E I _ e7 e7).mono ?_;rintro e Bp ⟨rfl,yH⟩;have wH:Ext wr2 Bp:=wH.trans yH;have J0:=wH.size;go_wp2_with fail;refine hK.out _ _ (fun _=>k8.o _ wH) ?_;have k9:=k8.o _ wH;clear hK K
          try simp only[Act.put,sA,sB,sC]
          refine lp 6 ?_;refine aW (i:=7) (oi:=?_) ?_ ?_ ?_ (fun K hK=>?_);rotate_left
          ·simp only[gA,gB,gC];rfl
          ·kernel_rfl
          ·kernel_rfl
          go_simp;refine hK.out _ _ (fun _=>k8.o _ (wH.trans (Ext.alloc _ _))) ?_;clear hK K
          try simp only[Act.put,sA,sB,sC]
          refine aW (i:=8) (oi:=?_) ?_ ?_ ?_ (fun K hK=>?_);rotate_left
          ·simp only[gA,gB,gC];rfl
          ·kernel_rfl
          ·kernel_rfl
          refine eX yr Tryz.B7 rfl Tryz.underlying42 (by decide) _ _ j0 (B+1) (.slice Zb Wr cS2) _ j0 (wG.o.st.ext (wH.trans (Ext.alloc _ _))) _ 1 1 [(s,-E,I)] j0 (yM.lit yr _ _ _ 1 j0 _ j0 _ j0 e7) (j1 Lg.o) (by have h2:=Ig.o;simp;omega) ?_;intro v13 Ij O hg l7;have Lz:=ae ((hg.block B (by have h2:=Ig.o;simp;omega) (fun e=>by have:=(wG.o.st.lt B e.symm).1;omega)).trans ((wH.trans (Ext.alloc _ _)).blk wG.o.box));have Dv:=ae ((yX.o.ext (wH.trans (Ext.alloc _ _))).grown hg Q'.o);have H4:=ae (Q'.o.near l7 (by have h1:=yX.o.size;simp;omega));obtain⟨LO,n13,c13,rfl,O6⟩:=O.var;have zy:=ae (wG.o.OU (wH.trans (Ext.alloc _ _)) hg O);obtain⟨c0,c1,c2,c3,cf⟩:=yC Lz.o;obtain⟨m0,m1,m2,m3,m4,m5,m6,mf⟩:=vH (Dv.o.blk GV.o En.o)
          (try simp only at m0 m1 m2 m3 m4 m5 m6)
          clear O hg l7;refine hK.out _ _ (fun _=>And.intro c2 (And.intro m4 m5)) ?_;have k9:=And.intro c2 (And.intro m4 m5);clear hK K
          try simp only[Act.put,sA,sB,sC]
          refine lp 9 ?_;refine dH (i:=10) (oi:=?_) (w':=?_) ?_ ?_ ?_ ?_ ?_ ?_ ?_;rotate_left 2
          ·simp only[gA,gB,gC];rfl
          ·kernel_rfl
          ·kernel_rfl
          ·exact of_decide_eq_true e9
          ·rfl
          ·go_simp;(try with_reducible rfl)
          try simp only[Act.put,sA,sB,sC]
          refine dM e9 ?_ _;rw[IA.o]at zy;obtain⟨Pl,Co⟩:=b9 (Ij.setCell ⟨B,2,none⟩ (.slice LO n13 c13));have Ea:=ae (Dv.o.set (j:=2) Cd.o (.slice LO n13 c13));rw[<-Co]at zy Ea;go_upto_region 21 with fail;rw[<-Co];clear Co c0 c1 c2 c3 cf m0 m1 m2 m3 m4 m5 m6 mf b0 b1 b2 b3 bf l0 l1 l2 l3 l4 l5 l6 lf k9 wH k8;have HB14:=ae zy.o.lt;have C2:=ae (show(((n:Int)-1)::(L++xq (wM V L) ⟨1,Q,J,U,(E,I),Z⟩ j).map fun f=>f.1).length<=2001 by rw[List.length_cons,List.length_map];have:=Lg.o;omega)
          have V7:=ae (show(((n:Int)-1)::(L++xq (wM V L) ⟨1,Q,J,U,(E,I),Z⟩ j).map fun f=>f.1)++[s]=((n:Int)-1)::(L++xq (wM V L) ⟨1,Q,J,U,(E,I),Z⟩ (j+1)).map fun f=>f.1 by
           rw[<-IA.o];exact rm _ _ (s,-E,I))
          go_wp2_with (first
           | (at_builtin;refine bv rfl _ _ rfl (B+1) (.slice aF2 nF2 cF2) _ rfl (zy.o.fx.ext (Ext.alloc _ _)) _ 1 _ [s] rfl (Ints.zp _ _ _ _ e8) (j1 C2.o) (by have h2:=HB14.o;simp;omega) ?_;intro v15 zU O hg l7;have Zx:=ae ((Ea.o.ext (Ext.alloc _ _)).grown hg Hx.o);have UQ:=ae (Hx.o.near l7 (by have h1:=Ea.o.size;simp;omega));obtain⟨QL,n15,c15,rfl,HNN15⟩:=O.var;have BC:=ae (zy.o.TY (Ext.alloc _ _) hg O);clear O hg l7))
          rw[V7.o]at BC
          go_roundg (g2-1)
          case measure=>have:=HJ.o;omega
          case rel=>exact⟨j+1,_,_,_,_,ae (j1 HJ.o),rfl,by go_num,BC,Zx,H4,UQ⟩
         ·have IA:=ae (show(L++xq (wM V L) ⟨1,Q,J,U,(E,I),Z⟩ j)=L++xq (wM V L) ⟨1,Q,J,U,(E,I),Z⟩ (j+1)by
           rw[io,if_neg (by show¬0<(Q[j]?.getD (0,0)).1;rw[PC];exact uS),List.append_nil])
          clear hs;go_wp2_with fail
          go_roundg (g2-1)
          case measure=>have:=HJ.o;omega
          case rel=>exact⟨j+1,_,_,_,_,ae (j1 HJ.o),rfl,by go_num,ae (by rw[<-IA.o];exact wG.o),yX,Q',Hx⟩
        ·have Cv:j=m:=by have:=HJ.o;omega
         have HE:=ae (show L++xq (wM V L) ⟨1,Q,J,U,(E,I),Z⟩ j=de V L ⟨1,Q,J,U,(E,I),Z⟩by unfold de;rw[HM.o,Cv]);rw[HE.o]at wG;have Ce:=ae (ry (V:=V) (L:=L) (r:=⟨1,Q,J,U,(E,I),Z⟩) (k:=k) (by rw[xJ.o];exact BS) xi.o xg.o);have Fk:=ae (Lf.o trivial (g1-1));have Gq:=ae (show g1-1+1=g1 by have:=L5.o;omega);subst Cv;go_wp2_with fail
         go_roundg (g1-1)
         case measure=>have:=L5.o;omega
         case rel=>exact⟨k+1,de V L ⟨1,Q,J,U,(E,I),Z⟩,_,_,_,_,_,_,ae (by have h1:=HK.o;have h2:=L5.o;omega),rfl,wG,ae (by have h1:=Fk.o.2;have h2:=L5.o;omega),ae Ce.o.1,ae Ce.o.2,ae (by have h1:=Fk.o.1;rw[Gq.o]at h1;exact h1.symm.trans Gl.o)⟩
      ·have B2:=ae (show o=AE.no by
        rw[<-Gl.o];refine rB Ic.o (fun h=>hs ?_);have:=h.2;rw[Int.toNat_natCast,<-zE.o]at this
        exact this)
       have G8:(rs != 1)=true:=by simp[hs]
       obtain⟨q0,q1,q2,q3,qf⟩:=CM.o w7 X7.o;obtain⟨z0,z1,z2,z3,_⟩:=xD.o w7 X7.o (.bool false) (.slice none 0 0) (.slice none 0 0) (.int .i64 0);have HZ:=ae (El.o w7 X7.o (.bool false) (.slice none 0 0) (.slice none 0 0) (.int .i64 0));go_wp2_with fail;refine bodyPost_ret (v:=.agg #[.bool false,.slice none 0 0,.slice none 0 0,.int .i64 0]) (by simp[results,Tryz.results28,go_sem,z0,z1,z2,z3]) rfl ⟨by rw[B2.o];exact fh.no _ _,HZ.o⟩
    ·have N8:=ae (show dX (q:Int) V L=true by rw[HDN.o];exact decide_eq_true e7);have hdd:decide (rk<(q:Int))=false:=decide_eq_false Ni;go_wp2_with fail;refine wp_region_held_drew (S:=(fun w'=>w'.cell? ⟨w.heap.size,0,none⟩=some (.int .i64 (q:Int))/\Ext o8 w')) e9 ?_ (fun k9=>?_)
     ·exact⟨hk.j9 c0,hk⟩
     refine tk 0 ?_;refine tk 1 ?_;refine tk 2 ?_;refine tk 4 ?_;refine tk 5 ?_;refine rd (i:=3) (h:=fun K hK=>?_);go_simp
     (go_at_call 79;refine(Iy.o _ hk).mono ?_;rintro e w3 ⟨rfl,vj⟩;have hk:=hk.trans vj)
     go_wp2_with fail;refine hK.out _ _ ?_ (fun k9=>?_)
     ·exact⟨hk.j9 c0,hk⟩
     clear hK K
     try simp only[Act.put,sA,sB,sC]
     refine tk 6 ?_;refine wpAnyH_done e9 ?_ _;have vi:=ae (HO.o.grow hk);obtain⟨b0,b1,b2,b3,bf⟩:=yC vi.o.box;have X3:=ae vi.o.ext;obtain⟨q0,q1,q2,q3,qf⟩:=CM.o w3 X3.o;obtain⟨z0,z1,z2,z3,_⟩:=xD.o w3 X3.o (.bool true) (.slice aP nP cP) (.slice aS nS cS) (.int .i64 (k:Int));have HZ:=ae (El.o w3 X3.o (.bool true) (.slice aP nP cP) (.slice aS nS cS) (.int .i64 (k:Int)));have C0:=ae (Lq.o w3 X3.o (.bool true) (.slice aP nP cP) (.slice aS nS cS) (.int .i64 (k:Int)));have HR:=ae (show o=⟨true,pt,L,k⟩by rw[<-Gl.o];exact uk N8.o);have Lb:=ae ((vi.o.pt.keep (fun j hj=>C0.o j (j1 ((vi.o.pt.lt j hj).1)))).mono (show w.heap.size<=B+1 by omega));have xh:=ae ((vi.o.st.keep (fun j hj=>C0.o j (j1 ((vi.o.st.lt j hj).1)))).mono (show w.heap.size<=B+1 by omega));clear hk c0 k9;go_wp2_with fail;refine bodyPost_ret (v:=.agg #[.bool true,.slice aP nP cP,.slice aS nS cS,.int .i64 (k:Int)]) (by simp[results,Tryz.results28,go_sem,z0,z1,z2,z3]) rfl ⟨by rw[HR.o];exact⟨_,_,_,_,_,_,rfl,Lb.o,xh.o⟩,HZ.o⟩
end Go.Proofs.YtdadoignenffgaaGreatDoor
