import Derived.Test.YtalmoolkhcgmmaaGreatNqAltG25
import Derived.Test.YtalmoolkhcgmmaaGreatNqAltG39
import Derived.Test.YtalmoolkhcgmmaaGreatNqAltG38
import Derived.Test.YtalmoolkhcgmmaaGreatNqAltG15
set_option linter.unusedVariables false
set_option linter.unusedSimpArgs false
namespace Go.Proofs.YtalmoolkhcgmmaaGreat
set_option maxHeartbeats 16000000
set_option maxRecDepth 100000
open Go.RowKit
theorem o8.litN(w:World)(base:Nat)(x:Int)(hb:base<=w.heap.size):o8 (w.alloc (.cells #[.int .i64 x] 3)) base (.slice (some ⟨w.heap.size,0,none⟩) 1 1) [x] :=
 World.ownsRow_lit w #[.int .i64 x] 1 hb (by simp[maxLen]) rfl
theorem l8.lit1(w:World)(base:Nat)(x y:Int)(hb:base<=w.heap.size):l8 (w.alloc (.cells #[.int .i64 x,.int .i64 y] 46)) base (.slice (some ⟨w.heap.size,0,none⟩) 1 1) [(x,y)] :=
 ⟨by simp[yL],.inr ⟨w.heap.size,1,_,rfl,hb,heap_alloc_new w _,Nat.le_refl _,by decide,rfl,by simp[yL]⟩⟩
theorem mN{w:World}{p:Int}{a:j8}{n cap:Nat}{V:j9}(h:Ints w a n cap V):
 Calls Tryz.prog 7 #[pair p a n cap] w fun e w'=>fY w' w.heap.size e (yg p V)/\Ext w w':=by
 obtain⟨W,hW⟩:=b8 ((w.alloc (.cells #[.int .i64 p,.slice a n cap] 26)).alloc (.cells #[.bool false,.slice none 0 0,.slice none 0 0,.int .i64 0] 33));have hws:W.heap.size=w.heap.size+2:=by rw[hW];simp
 have hX:Ext w W:=by rw[hW];exact(Ext.alloc _ _).trans (Ext.alloc _ _)
 have xU:=ae (show W.heap[w.heap.size+1]?=some (.cells #[.bool false,.slice none 0 0,.slice none 0 0,.int .i64 0] 33 (0,0))by rw[hW];exact ak _ _ _ e7);have Ev:=ae (show W.cell? ⟨w.heap.size,0,none⟩=some (.int .i64 p)by rw[hW];exact Ext.k6 (Ext.alloc _ _) e7);have FQ:=ae (show W.cell? ⟨w.heap.size,1,none⟩=some (.slice a n cap)by rw[hW];exact Ext.k6 (Ext.alloc _ _) e7);have HI:=ae (h.ext hX);have HX:=ae hX;have yD:=ae h.hlen;have Kv:=ae (eV (p:=p) HI.o);have B5:=ae (fun(w':World) (hx:Ext W w') (v0 v1 v2 v3:Value)=>Am (Pe ((hx.block _ b9).trans xU.o) v0 v1 v2 v3).1);have FX:=ae (fun(w':World) (hx:Ext W w') (v0 v1 v2 v3:Value)=>Q7 (w:=w) (r:=w.heap.size+1) (HX.o.trans hx) (Nat.le_succ _) v0 v1 v2 v3);have N3:=ae (fun(w':World) (hx:Ext W w') (v0 v1 v2 v3:Value)=>(Pe ((hx.block (w.heap.size+1) b9).trans xU.o) v0 v1 v2 v3).2);have QD:=ae (fun(w':World) (hx:Ext W w')=>Am ((hx.block _ b9).trans xU.o));clear h hX;cases hgo:aZ p V
 ·rw[hgo]at Kv;have HN:=ae (show yg p V=BK.no by unfold yg;rw[hgo];rfl);clear hgo;go_enter Tryz.func7,Tryz.ntmps7
  go_wp2_with fail;rw[<-hW];refine Kv.o.mono ?_;rintro e w1 ⟨rfl,hx⟩;obtain⟨q0,q1,q2,q3,qf⟩:=QD.o w1 hx;obtain⟨z0,z1,z2,z3,_⟩:=B5.o w1 hx (.bool false) (.slice none 0 0) (.slice none 0 0) (.int .i64 0);have HZ:=ae (FX.o w1 hx (.bool false) (.slice none 0 0) (.slice none 0 0) (.int .i64 0));clear hx hW;go_wp2_with fail;refine bodyPost_ret (v:=.agg #[.bool false,.slice none 0 0,.slice none 0 0,.int .i64 0]) (by simp[results,Tryz.results7,go_sem,z0,z1,z2,z3]) rfl ⟨by rw[HN.o];exact fY.no _ _,HZ.o⟩
 ·rw[hgo]at Kv;obtain⟨h1,Ya,xk,Au,Dq,hV⟩:=fM hgo;obtain⟨q,hq⟩:=b8 p.toNat;rw[<-hq]at xk Au Dq;have N1:=ae hgo;have Bj:1<=n:=by rw[<-yD.o];exact h1
  have CH:n<=32:=by rw[<-yD.o];exact Ya
  obtain⟨g,hg⟩:=b8 (bD p V);have HG:=ae hg;have Ez:=ae (fun(w':World) (hx:Ext W w')=>ko (p:=p) (HI.o.ext hx));simp only[<-hg]at Ez;clear hgo hq hV h1 Ya hg;by_cases BM:p=1
  ·subst BM;clear xk;have HN:=ae (show yg 1 V=⟨true,[(g,1)],[],0⟩by unfold yg;rw[if_pos N1.o,if_pos j0,<-HG.o]);go_enter Tryz.func7,Tryz.ntmps7
   go_wp2_with fail;rw[<-hW];refine Kv.o.mono ?_;rintro e w1 ⟨rfl,hx⟩;have c0:=hx.k6 Ev.o;have c1:=hx.k6 FQ.o;have X1:=ae hx;clear hx hW;go_wp2_with fail;refine(Ez.o _ X1.o).mono ?_;rintro e w2 ⟨rfl,xg⟩;go_wp2_with fail;refine(cG g _).mono ?_;rintro e w3 ⟨rfl,wS⟩;have xG:=xg.trans wS;have X4:=ae (X1.o.trans (xG.trans (Ext.alloc w3 (.cells #[.int .i64 g,.int .i64 1] 46))));obtain⟨q0,q1,q2,q3,qf⟩:=QD.o _ X4.o;obtain⟨z0,z1,z2,z3,_⟩:=B5.o _ X4.o (.bool true) (.slice (some ⟨w3.heap.size,0,none⟩) 1 1) (.slice none 0 0) (.int .i64 0);have HZ:=ae (FX.o _ X4.o (.bool true) (.slice (some ⟨w3.heap.size,0,none⟩) 1 1) (.slice none 0 0) (.int .i64 0));have Oy:=ae (N3.o _ X4.o (.bool true) (.slice (some ⟨w3.heap.size,0,none⟩) 1 1) (.slice none 0 0) (.int .i64 0));have CY:=(X1.o.trans xG).size;have OK:=ae ((l8.lit1 w3 w.heap.size g 1 b9).keep (fun k hk=>Oy.o k (by simp only[Value.ownBlock,Option.some.injEq]at hk;omega)));clear xg wS xG c0 c1;go_wp2_with fail;refine bodyPost_ret (v:=.agg #[.bool true,.slice (some ⟨w3.heap.size,0,none⟩) 1 1,.slice none 0 0,.int .i64 0]) (by simp[results,Tryz.results7,go_sem,z0,z1,z2,z3]) rfl ⟨by rw[HN.o];exact⟨_,_,_,_,_,_,rfl,OK.o,xm.nil _ _ _ _⟩,HZ.o⟩
  ·subst xk;have Rn:2<=(q:Int):=by omega
   have Rm:((q:Int) == 1)=false:=by simp[BM]
   have GX:IntKind.i64.wrap ((n:Int)-1)=(n:Int)-1:=by rw[IntKind.wrap_i64];omega
   have HN:=ae (uo N1.o Rn);obtain⟨o,ho⟩:=b8 (yg (q:Int) V);rw[<-ho]at HN⊢;have HQ:=ae BM;clear ho BM Rn;go_enter Tryz.func7,Tryz.ntmps7
   go_wp2_with fail;rw[<-hW];refine Kv.o.mono ?_;rintro e w1 ⟨rfl,hx⟩;have c0:=hx.k6 Ev.o;have c1:=hx.k6 FQ.o;have X1:=ae hx;obtain⟨w2,A7⟩:=b8 (w1.alloc (.cells #[.bool true,.slice none 0 0,.slice none 0 0,.int .i64 0] 33));have zx:w2.heap[w1.heap.size]?=some (.cells #[.bool true,.slice none 0 0,.slice none 0 0,.int .i64 0] 33 (0,0)):=by rw[A7];exact ak _ _ _ rfl
   have xg:Ext w1 w2:=by rw[A7];exact Ext.alloc _ _
   have X2:=ae (hx.trans xg);have Tx:=hx.size;clear hx hW;go_upto_region 6 with fail;rw[<-A7];clear A7;have d0:=xg.k6 c0;have d1:=xg.k6 c1;clear c0 c1 xg;generalize w1.heap.size=B at zx Tx⊢
   have Ft:=ae (show yr W (w2.alloc (.cells #[.int .i64 ((n:Int)-1)] 3)) B (.slice none 0 0) (.slice none 0 0) (.slice (some ⟨w2.heap.size,0,none⟩) 1 1) [] [] (((n:Int)-1)::[].map fun f:Int×Int×Int=>f.1) 0 from
    ⟨(Ext.alloc _ _).blk zx,l8.nil _ _,xm.nil _ _ _ _,o8.litN _ _ _ (j4 (lt_of_block zx)),X2.o.trans (Ext.alloc _ _),Tx⟩)
   clear zx;go_wp2_with fail
   go_loopg [4] ((wV V []).length+1) (fun gk ff wr=>∃(k:Nat) (L:j5) (pt:j6) (vp vs:Value) (aF:j8) (nF cF:Nat),b7 (gk+k=(wV V []).length+1)/\ff=.slice aF nF cF/\b7 (yr W wr B vp vs (.slice aF nF cF) pt L (((n:Int)-1)::L.map fun f=>f.1) k)/\b7 ((wV V L).length+1<=gk)/\b7 (∀f∈L,f.1<=1000)/\b7 (L.length<=32*k)/\b7 (Dz (q:Int) V gk pt L k=o))
   case atStart=>exact⟨0,[],[],_,_,_,_,_,ae b9,rfl,Ft,ae (Nat.le_refl _),ae (fun f hf=>by cases hf),ae e7,HN⟩
   case round =>
    obtain⟨g1,r7⟩:=b8 gk;subst r7;obtain⟨o7,o6⟩:=b8 wr;subst o6;obtain⟨k,L,pt,vp,vs,aF,nF,cF,HK,rfl,HO,OS,y4,zR,IA⟩:=hrel;obtain⟨aP,nP,cP,rfl,HNP⟩:=HO.o.pt.var;obtain⟨aS,nS,cS,rfl,QI⟩:=HO.o.st.var;have HFR0:=ae (show(wV V []).length<=32 by have h1:(wV V []).length<=V.length-2:=ew [] (V.length-2);have h2:=yD.o;omega);have hk33:k<=33:=by have h1:=HK.o;have h2:=HFR0.o;omega
    have hnS:nS<=1100:=by rw[<-QI.o];have:=zR.o;omega
    have hnF:nF<=1101:=by
     have h1:=HO.o.fx.ints.hlen;simp only[List.length_cons,List.length_map]at h1;have:=zR.o;omega
    obtain⟨rk,J6⟩:=b8 (fe (q:Int) (((n:Int)-1)::L.map fun f=>f.1));have Kn:=ae (fun(w':World) (hx:Ext o7 w')=>LY (n:=(q:Int)) (HO.o.fx.ext hx).ints (M8 (V:=V) b9 y4.o) b9);simp only[<-J6]at Kn;have hrle:rk<=(q:Int):=by rw[J6];exact Lo b9 _
    have HDN:=ae (show dg (q:Int) V L=decide (rk=(q:Int))by rw[J6];unfold dg;rw[yD.o]);have c0:=HO.o.ext.k6 Ev.o;have hk:Ext o7 o7.drew:=Ext.drew o7;clear J6;by_cases hdn:rk<(q:Int)
    ·have JX:=ae (show dg (q:Int) V L=false by rw[HDN.o];exact decide_eq_false b9);have hdd:decide (rk<(q:Int))=true:=decide_eq_true hdn;go_wp2_with fail;refine wp_region_held_drew (S:=(fun w'=>w'.cell? ⟨w.heap.size,0,none⟩=some (.int .i64 (q:Int))/\Ext o7 w')) e8 ?_ (fun k9=>?_)
     ·exact⟨hk.k6 c0,hk⟩
     refine tk 0 ?_;refine tk 1 ?_;refine tk 2 ?_;refine tk 4 ?_;refine tk 5 ?_;refine rd (i:=3) (h:=fun K hK=>?_);go_simp
     (go_at_call 20;refine(Kn.o _ hk).mono ?_;rintro e w3 ⟨rfl,wS⟩;have hk:=hk.trans wS)
     go_wp2_with fail;refine hK.out _ _ ?_ (fun k9=>?_)
     ·exact⟨hk.k6 c0,hk⟩
     clear hK K
     try simp only[Act.put,sA,sB,sC]
     refine tk 6 ?_;refine wpAnyH_done e8 ?_ _;have u:=ae (HO.o.grow hk);have X3:=ae u.o.ext;obtain⟨b0,b1,b2,b3,bf⟩:=Am u.o.box;have e0:=X3.o.k6 Ev.o;have e1:=X3.o.k6 FQ.o;have Yy:=ae (vm (p:=(q:Int)) (HI.o.ext X3.o) u.o.st.EU b9);obtain⟨ok,xq⟩:=b8 (xH (q:Int) V L);rw[<-xq]at Yy;have z7:=ae xq;clear hk c0 k9 xq;go_wp2_with fail;refine Yy.o.mono ?_;rintro e w4 ⟨Jv,xG⟩;obtain⟨la,Pu,Px,lb,Pt,Pw,lc,Ps,Pv,rfl,Th⟩:=Jv.lpc;unfold C8;obtain⟨w5,BZ⟩:=b8 (w4.alloc (bE la Pu Px lb Pt Pw lc Ps Pv));have zh:Ext w4 w5:=by rw[BZ];exact Ext.alloc _ _
     have K5:=ae (xG.trans zh);have X5:=ae (X3.o.trans K5.o);go_upto_region 9 with fail;rw[<-BZ];cases ok
     ·have DO:=ae (show o=BK.no by
       rw[<-IA.o]
       exact tf JX.o (fun h=>by rw[<-z7.o]at h;exact Bool.noConfusion h.1))
      obtain⟨q0,q1,q2,q3,qf⟩:=QD.o w5 X5.o;obtain⟨z0,z1,z2,z3,_⟩:=B5.o w5 X5.o (.bool false) (.slice none 0 0) (.slice none 0 0) (.int .i64 0);have HZ:=ae (FX.o w5 X5.o (.bool false) (.slice none 0 0) (.slice none 0 0) (.int .i64 0));clear BZ zh xG Th Jv b0 b1 b2 b3 bf e0 e1;go_wp2_with fail;refine bodyPost_ret (v:=.agg #[.bool false,.slice none 0 0,.slice none 0 0,.int .i64 0]) (by simp[results,Tryz.results7,go_sem,z0,z1,z2,z3]) rfl ⟨by rw[DO.o];exact fY.no _ _,HZ.o⟩
     ·obtain⟨E1,E2,E3⟩:=ow z7.o.symm;rw[E1,E2,E3,Int.toNat_natCast]at Th;have Iv:=oP (Th.ext zh);obtain⟨r,hr⟩:=b8 (ap q V L);rw[show bV aV (stA q V L) (CW q) (Bs V L)=r from hr.symm]at Iv;have En:=ae Iv;have Bv:=ae hr;have t0:=au (show w5.heap[w4.heap.size]?=some (.cells #[.slice la Pu Px,.slice lb Pt Pw,.slice lc Ps Pv] 52 (0,0))by rw[BZ];exact ak _ _ _ rfl);have t1:=aH (show w5.heap[w4.heap.size]?=some (.cells #[.slice la Pu Px,.slice lb Pt Pw,.slice lc Ps Pv] 52 (0,0))by rw[BZ];exact ak _ _ _ rfl);have t2:=aI (show w5.heap[w4.heap.size]?=some (.cells #[.slice la Pu Px,.slice lb Pt Pw,.slice lc Ps Pv] 52 (0,0))by rw[BZ];exact ak _ _ _ rfl);have Ep:=ae K5.o.size;clear E1 E2 E3 Iv hr BZ zh xG Th Jv b0 b1 b2 b3 bf e0 e1;go_wp2_with fail;refine En.o.mono ?_;rintro e w6 ⟨⟨xa,xn,xc,ya,yn,yc,ra,rn,rc,rfl,Cv⟩,Oc⟩;obtain⟨w7,CX⟩:=b8 (w6.alloc (ce r xa xn xc ya yn yc ra rn rc));have SV:Ext w6 w7:=by rw[CX];exact Ext.alloc _ _
      have K7:=ae ((K5.o.trans Oc).trans SV);have X7:=ae (X3.o.trans K7.o);have zy:=ae ((Cv.ext SV).mono Ep.o);have Cb:=ae (show w7.heap[w6.heap.size]?=some (ce r xa xn xc ya yn yc ra rn rc)by rw[CX];exact ak _ _ _ rfl);have Jk:=ae (show w3.heap.size<=w6.heap.size by have h1:=Oc.size;have h2:=Ep.o;omega)
      have HSZ:=ae (fun(hs:r.status=1)=>show(wV V L).length<=r.X.length/\r.Y.length=q+1/\o5 r.value=true/\∀k,k<r.Y.length->o5 (r.Y[k]?.getD (0,0))=true by
       have:=kq (p:=(q:Int)) z7.o.symm (by rw[Int.toNat_natCast,<-Bv.o];exact hs);rw[Int.toNat_natCast,<-Bv.o]at this
       exact this)
      have NV:=ae (fun(hs:r.status=1) (f:Nat)=>show Dz (q:Int) V (f+1) pt L k=Dz (q:Int) V f (Lp q r) (bJ V L r) (k+1)/\(wV V (bJ V L r)).length<(wV V L).length by
       have h1:=vQ (f:=f) (k:=k) (pt:=pt) JX.o z7.o.symm (by rw[Int.toNat_natCast,<-Bv.o];exact hs);have h2:=mT z7.o.symm (by rw[Int.toNat_natCast,<-Bv.o];exact hs);rw[Int.toNat_natCast,<-Bv.o]at h1 h2
       exact⟨h1,h2⟩)
      obtain⟨rs,R,O,U,⟨I,J⟩,Z⟩:=r;unfold A6;go_upto_region 12 with fail;rw[<-CX];clear Cv Oc SV CX t0 t1 t2;generalize w6.heap.size=G at Cb Jk⊢;have JG:=lt_of_block Cb.o;obtain⟨l0,l1,l2,l3,l4,l5,l6,lf⟩:=xS Cb.o
      try simp only at l0 l1 l2 l3 l4 l5 l6
      by_cases hs:rs=1
      ·subst hs;obtain⟨J2,L5,Fi,J1⟩:=HSZ.o rfl
       try simp only at J2 L5 Fi J1
       have AD:=aQ Fi
       try simp only at AD
       have Yn:=ae J2;have Kj:=ae L5;have HYV:=ae J1;have Dn:q<=yn:=by have h1:=zy.o.y.here.hlen;have h2:=Kj.o;(try simp only at h1);omega
       have hyc:(q:Int)<=(yc:Int):=by have h1:=zy.o.y.here.o3;omega
       have UD:=ae (uk (zy.o.y.here.take Dn) b9 (fun i=>by
        by_cases hi:i<q
        ·rw[List.getElem?_take,if_pos hi]
         show -9223372036854775807<=(O[i]?.getD (0,0)).1/\(O[i]?.getD (0,0)).1<=9223372036854775807;have:=aQ (HYV.o i (by rw[Kj.o];omega));omega
        ·rw[List.getElem?_take,if_neg hi];simp))
       have e0:=X7.o.k6 Ev.o;have e1:=X7.o.k6 FQ.o;clear J2 L5 Fi J1;go_wp2_with fail;refine UD.o.mono ?_;rintro e w8 ⟨⟨v,rfl,ho⟩,ZA⟩;obtain⟨a8,n8,p8,rfl,FT⟩:=ho.var;have Hd:=ae (u.o.grow (K7.o.trans ZA));obtain⟨b0,b1,b2,b3,bf⟩:=Am Hd.o.box;have OV:=ae u.o.lt;have HP8:=ae (ho.mono (show B+1<=w7.heap.size by have h1:=u.o.lt;have h2:=K7.o.size;omega));have OG:=ae ((zZ.refl w3.heap.size w7).ext ZA);have GM:=ae ZA;obtain⟨w9,Re⟩:=b8 (w8.setCell ⟨B,1,none⟩ (.slice a8 n8 p8));have Ew:=ae (Hd.o.Sv HP8.o);rw[<-Re]at Ew;have Ix:=ae (OG.o.set (j:=1) OV.o (.slice a8 n8 p8));rw[<-Re]at Ix;clear ho ZA;go_upto_region 15 with fail;rw[<-Re];clear Re b0 b1 b2 b3 bf e0 e1;obtain⟨k1,BH⟩:∃x:Int,x=(k:Int)+1:=⟨_,rfl⟩;have hwk:IntKind.i64.wrap ((k:Int)+1)=k1:=by rw[IntKind.wrap_i64];omega
       have HK1:=ae (show k1=((k+1:Nat):Int)by omega);clear BH;obtain⟨b0,b1,b2,b3,bf⟩:=Am Ew.o.box;obtain⟨IH,PF⟩:=b8 (w9.setCell ⟨B,3,none⟩ (.int .i64 k1));have Co:=ae (Ew.o.VM (k':=k+1) HK1.o);rw[<-PF]at Co;have GO:=ae (Ix.o.set (j:=3) OV.o (.int .i64 k1));rw[<-PF]at GO;go_upto_region 16 with fail;rw[<-PF];clear PF b0 b1 b2 b3 bf hwk;obtain⟨b0,b1,b2,b3,bf⟩:=Am Co.o.box;have e0:=Co.o.ext.k6 Ev.o;have e1:=Co.o.ext.k6 FQ.o;have G0:3<=n:=by
        obtain⟨q',hq',PN,hq5',Xi,_⟩:=aW N1.o;have h4:=I9 (n:=q') (j4 HQ.o) hq5';have:=yD.o;omega
       have UJ:=ae (iA (q:Int) a n cap G0 b9 Co.o.st.EU);go_wp2_with fail;refine UJ.o.mono ?_;rintro e Hi ⟨⟨v,rfl,ho⟩,Hv⟩;obtain⟨a11,m,c11,rfl,HM⟩:=ho.var;have Uz:=ae (Co.o.grow Hv);have GN:=ae (GO.o.ext Hv);have Sa:=ae (show bd L (n-2)=wV V L by unfold wV;rw[yD.o]);rw[Sa.o]at ho HM;have QP:=ae (ho.mono (show w3.heap.size<=IH.heap.size by have h1:=GO.o.size;have h2:=K7.o.size;omega));have R9:=ae (GN.o.on zy.o.x);have N9:=ae (GN.o.blk Jk.o Cb.o);have HOS:=ae (Off.of (hi:=Hi.heap.size) u.o.st.lt (Nat.le_refl _));have R5:=ae (Off.of (hi:=Hi.heap.size) u.o.fx.lt (Nat.le_refl _));have hmx:m<=xn:=by have h1:=R9.o.here.hlen;have h2:=Yn.o;have h3:=HM.o;(try simp only at h1);omega
       have Xa:m<=32:=by
        have h1:(wV V L).length<=V.length-2:=ew L (V.length-2);have h2:=yD.o;have h3:=HM.o;omega
       have NS:=ae (show(L++yf (wV V L) ⟨1,R,O,U,(I,J),Z⟩ 0)=L by rw[oZ,List.append_nil]);clear ho Hv b0 b1 b2 b3 bf e0 e1 l0 l1 l2 l3 l4 l5 l6 lf;go_wp2_with fail
       go_loopg [4,67] m (fun gk ff ii wr=>∃(j:Nat) (vs':Value) (aF':j8) (nF' cF':Nat),b7 (gk+j=m)/\ff=.slice aF' nF' cF'/\ii=.int .i64 (j:Int)/\b7 (yr W wr B (.slice a8 n8 p8) vs' (.slice aF' nF' cF') ((O.take q).map wR) (L++yf (wV V L) ⟨1,R,O,U,(I,J),Z⟩ j) (((n:Int)-1)::(L++yf (wV V L) ⟨1,R,O,U,(I,J),Z⟩ j).map fun f=>f.1) (k+1))/\b7 (zZ w3.heap.size Hi wr)/\b7 (Off w3.heap.size Hi.heap.size vs')/\b7 (Off w3.heap.size Hi.heap.size (.slice aF' nF' cF')))
       case atStart=>exact⟨0,_,_,_,_,ae b9,rfl,rfl,ae (by rw[NS.o];exact Uz.o),ae (zZ.refl _ _),HOS,R5⟩
       case round =>
        obtain⟨g2,xK⟩:=b8 gk;subst xK;obtain⟨wr2,wT⟩:=b8 wr;subst wT;obtain⟨j,vs2,aF2,nF2,cF2,HJ,rfl,rfl,yE,Ax,Uw,JO⟩:=hrel;obtain⟨aS2,nS2,cS2,rfl,HNS2⟩:=yE.o.st.var;by_cases DE:j<m
        ·have MC:j<xn:=by omega
         obtain⟨fb,Ei,P6,Tp⟩:=(Ax.o.ints (Nat.le_refl _) QP.o).ints.at DE;subst P6;obtain⟨xb,Cc,x1,x2,SR,SQ,hxc1,hxc2⟩:=(Ax.o.on R9.o).here.at MC;subst SR;obtain⟨l0,l1,l2,l3,l4,l5,l6,lf⟩:=xS (Ax.o.blk Jk.o N9.o)
         try simp only at l0 l1 l2 l3 l4 l5 l6 SQ
         obtain⟨s,hs⟩:=b8 ((wV V L)[j]?.getD 0);rw[<-hs]at Tp;by_cases wI:0<x1
         ·have Kp:=ae (show(L++yf (wV V L) ⟨1,R,O,U,(I,J),Z⟩ j)++[(s,-I,J)]=L++yf (wV V L) ⟨1,R,O,U,(I,J),Z⟩ (j+1)by
           rw[ja,if_pos (by show 0<(R[j]?.getD (0,0)).1;rw[SQ];exact wI),<-hs,List.append_assoc])
          obtain⟨b0,b1,b2,b3,bf⟩:=Am yE.o.box
          have Ex:=ae (show(L++yf (wV V L) ⟨1,R,O,U,(I,J),Z⟩ j).length<=2000 by
           rw[List.length_append];have h1:=lT (wV V L) ⟨1,R,O,U,(I,J),Z⟩ j;have h2:=zR.o
           omega)
          have QU:=ae yE.o.lt;clear hs;go_wp2_with fail;have yJ:Ext wr2 wr2.drew:=Ext.drew wr2;have k8:=ae (fun(w':World) (h:Ext wr2 w')=>(⟨h.k6 b2,h.k6 l4,h.k6 l5⟩:w'.cell? ⟨B,2,none⟩=some (.slice aS2 nS2 cS2)/\w'.cell? ⟨G,4,none⟩=some (.int .i64 I)/\w'.cell? ⟨G,5,none⟩=some (.int .i64 J)));refine du (M:=[10]) (S:=fun w'=>w'.cell? ⟨B,2,none⟩=some (.slice aS2 nS2 cS2)/\w'.cell? ⟨G,4,none⟩=some (.int .i64 I)/\w'.cell? ⟨G,5,none⟩=some (.int .i64 J)) e8 ?_;have k9:=k8.o _ yJ;obtain⟨wd,hwd⟩:=b8 wr2.drew;rw[<-hwd]at yJ k9;rw[<-hwd];clear hwd;refine lp 0 ?_;refine ll 1 ?_;refine lp 2 ?_;refine lp 3 ?_;refine ll 4 ?_;refine bh (i:=5) (oi:=?_) ?_ ?_ ?_ (fun K hK=>?_);rotate_left
          ·simp only[gA,gB,gC];rfl
          ·kernel_rfl
          ·kernel_rfl
          go_simp;go_at_call 25;refine(eM I J _ b9 b9).mono ?_;rintro e IG ⟨rfl,Bi⟩;have yJ:Ext wr2 IG:=yJ.trans Bi;have Ml:=yJ.size;go_wp2_with fail;refine hK.out _ _ (fun _=>k8.o _ yJ) ?_;have k9:=k8.o _ yJ;clear hK K
          try simp only[Act.put,sA,sB,sC]
          refine lp 6 ?_;refine bh (i:=7) (oi:=?_) ?_ ?_ ?_ (fun K hK=>?_);rotate_left
          ·simp only[gA,gB,gC];rfl
          ·kernel_rfl
          ·kernel_rfl
          go_simp;refine hK.out _ _ (fun _=>k8.o _ (yJ.trans (Ext.alloc _ _))) ?_;clear hK K
          try simp only[Act.put,sA,sB,sC]
          refine bh (i:=8) (oi:=?_) ?_ ?_ ?_ (fun K hK=>?_);rotate_left
          ·simp only[gA,gB,gC];rfl
          ·kernel_rfl
          ·kernel_rfl
          refine fF Ae Tryz.DR rfl Tryz.underlying31 (by decide) _ _ j0 (B+1) (.slice aS2 nS2 cS2) _ j0 (yE.o.st.ext (yJ.trans (Ext.alloc _ _))) _ 1 1 [(s,-I,J)] j0 (F8.lit Ae _ _ _ 1 j0 _ j0 _ j0 b9) (j4 Ex.o) (by have h2:=QU.o;simp;omega) ?_;intro v13 Jo ho hg l7;have N8:=ae ((hg.block B (by have h2:=QU.o;simp;omega) (fun e=>by have:=(yE.o.st.lt B e.symm).1;omega)).trans ((yJ.trans (Ext.alloc _ _)).blk yE.o.box));have E6:=ae ((Ax.o.ext (yJ.trans (Ext.alloc _ _))).grown hg Uw.o);have JR:=ae (Uw.o.near l7 (by have h1:=Ax.o.size;simp;omega));obtain⟨Ow,n13,c13,rfl,R6⟩:=ho.var;have Bd:=ae (yE.o.RN (yJ.trans (Ext.alloc _ _)) hg ho);obtain⟨c0,c1,c2,c3,cf⟩:=Am N8.o;obtain⟨m0,m1,m2,m3,m4,m5,m6,mf⟩:=xS (E6.o.blk Jk.o N9.o)
          (try simp only at m0 m1 m2 m3 m4 m5 m6)
          clear ho hg l7;refine hK.out _ _ (fun _=>And.intro c2 (And.intro m4 m5)) ?_;have k9:=And.intro c2 (And.intro m4 m5);clear hK K
          try simp only[Act.put,sA,sB,sC]
          refine lp 9 ?_;refine dH (i:=10) (oi:=?_) (w':=?_) ?_ ?_ ?_ ?_ ?_ ?_ ?_;rotate_left 2
          ·simp only[gA,gB,gC];rfl
          ·kernel_rfl
          ·kernel_rfl
          ·exact of_decide_eq_true e8
          ·rfl
          ·go_simp;(try with_reducible rfl)
          try simp only[Act.put,sA,sB,sC]
          refine dL e8 ?_ _;rw[Kp.o]at Bd;obtain⟨w14,D2⟩:=b8 (Jo.setCell ⟨B,2,none⟩ (.slice Ow n13 c13));have FO:=ae (E6.o.set (j:=2) OV.o (.slice Ow n13 c13));rw[<-D2]at Bd FO;go_upto_region 21 with fail;rw[<-D2];clear D2 c0 c1 c2 c3 cf m0 m1 m2 m3 m4 m5 m6 mf b0 b1 b2 b3 bf l0 l1 l2 l3 l4 l5 l6 lf k9 yJ k8;have HB14:=ae Bd.o.lt;have EJ:=ae (show(((n:Int)-1)::(L++yf (wV V L) ⟨1,R,O,U,(I,J),Z⟩ j).map fun f=>f.1).length<=2001 by rw[List.length_cons,List.length_map];have:=Ex.o;omega)
          have HFE:=ae (show(((n:Int)-1)::(L++yf (wV V L) ⟨1,R,O,U,(I,J),Z⟩ j).map fun f=>f.1)++[s]=((n:Int)-1)::(L++yf (wV V L) ⟨1,R,O,U,(I,J),Z⟩ (j+1)).map fun f=>f.1 by
           rw[<-Kp.o];exact sS _ _ (s,-I,J))
          go_wp2_with (first
           | (at_builtin;refine bm rfl _ _ rfl (B+1) (.slice aF2 nF2 cF2) _ rfl (Bd.o.fx.ext (Ext.alloc _ _)) _ 1 _ [s] rfl (Ints.Ad _ _ _ _ e7) (j4 EJ.o) (by have h2:=HB14.o;simp;omega) ?_;intro v15 Bz ho hg l7;have HS15:=ae ((FO.o.ext (Ext.alloc _ _)).grown hg JO.o);have YX:=ae (JO.o.near l7 (by have h1:=FO.o.size;simp;omega));obtain⟨T6,n15,c15,rfl,HNN15⟩:=ho.var;have Dl:=ae (Bd.o.Yc (Ext.alloc _ _) hg ho);clear ho hg l7))
          rw[HFE.o]at Dl
          go_roundg (g2-1)
          case measure=>have:=HJ.o;omega
          case rel=>exact⟨j+1,_,_,_,_,ae (j4 HJ.o),rfl,by go_num,Dl,HS15,JR,YX⟩
         ·have Kp:=ae (show(L++yf (wV V L) ⟨1,R,O,U,(I,J),Z⟩ j)=L++yf (wV V L) ⟨1,R,O,U,(I,J),Z⟩ (j+1)by
           rw[ja,if_neg (by show¬0<(R[j]?.getD (0,0)).1;rw[SQ];exact wI),List.append_nil])
          clear hs;go_wp2_with fail
          go_roundg (g2-1)
          case measure=>have:=HJ.o;omega
          case rel=>exact⟨j+1,_,_,_,_,ae (j4 HJ.o),rfl,by go_num,ae (by rw[<-Kp.o];exact yE.o),Ax,Uw,JO⟩
        ·have D9:j=m:=by have:=HJ.o;omega
         have HE:=ae (show L++yf (wV V L) ⟨1,R,O,U,(I,J),Z⟩ j=bJ V L ⟨1,R,O,U,(I,J),Z⟩by unfold bJ;rw[HM.o,D9]);rw[HE.o]at yE;have Ct:=ae (te (V:=V) (L:=L) (r:=⟨1,R,O,U,(I,J),Z⟩) (k:=k) (by rw[yD.o];exact CH) y4.o zR.o);have GP:=ae (NV.o trivial (g1-1));have Jl:=ae (show g1-1+1=g1 by have:=OS.o;omega);subst D9;go_wp2_with fail
         go_roundg (g1-1)
         case measure=>have:=OS.o;omega
         case rel=>exact⟨k+1,bJ V L ⟨1,R,O,U,(I,J),Z⟩,_,_,_,_,_,_,ae (by have h1:=HK.o;have h2:=OS.o;omega),rfl,yE,ae (by have h1:=GP.o.2;have h2:=OS.o;omega),ae Ct.o.1,ae Ct.o.2,ae (by have h1:=GP.o.1;rw[Jl.o]at h1;exact h1.symm.trans IA.o)⟩
      ·have DO:=ae (show o=BK.no by
        rw[<-IA.o];refine tf JX.o (fun h=>hs ?_);have:=h.2;rw[Int.toNat_natCast,<-Bv.o]at this
        exact this)
       have F3:(rs != 1)=true:=by simp[hs]
       obtain⟨q0,q1,q2,q3,qf⟩:=QD.o w7 X7.o;obtain⟨z0,z1,z2,z3,_⟩:=B5.o w7 X7.o (.bool false) (.slice none 0 0) (.slice none 0 0) (.int .i64 0);have HZ:=ae (FX.o w7 X7.o (.bool false) (.slice none 0 0) (.slice none 0 0) (.int .i64 0));go_wp2_with fail;refine bodyPost_ret (v:=.agg #[.bool false,.slice none 0 0,.slice none 0 0,.int .i64 0]) (by simp[results,Tryz.results7,go_sem,z0,z1,z2,z3]) rfl ⟨by rw[DO.o];exact fY.no _ _,HZ.o⟩
    ·have QS:=ae (show dg (q:Int) V L=true by rw[HDN.o];exact decide_eq_true b9);have hdd:decide (rk<(q:Int))=false:=decide_eq_false hdn;go_wp2_with fail;refine wp_region_held_drew (S:=(fun w'=>w'.cell? ⟨w.heap.size,0,none⟩=some (.int .i64 (q:Int))/\Ext o7 w')) e8 ?_ (fun k9=>?_)
     ·exact⟨hk.k6 c0,hk⟩
     refine tk 0 ?_;refine tk 1 ?_;refine tk 2 ?_;refine tk 4 ?_;refine tk 5 ?_;refine rd (i:=3) (h:=fun K hK=>?_);go_simp
     (go_at_call 20;refine(Kn.o _ hk).mono ?_;rintro e w3 ⟨rfl,wS⟩;have hk:=hk.trans wS)
     go_wp2_with fail;refine hK.out _ _ ?_ (fun k9=>?_)
     ·exact⟨hk.k6 c0,hk⟩
     clear hK K
     try simp only[Act.put,sA,sB,sC]
     refine tk 6 ?_;refine wpAnyH_done e8 ?_ _;have u:=ae (HO.o.grow hk);obtain⟨b0,b1,b2,b3,bf⟩:=Am u.o.box;have X3:=ae u.o.ext;obtain⟨q0,q1,q2,q3,qf⟩:=QD.o w3 X3.o;obtain⟨z0,z1,z2,z3,_⟩:=B5.o w3 X3.o (.bool true) (.slice aP nP cP) (.slice aS nS cS) (.int .i64 (k:Int));have HZ:=ae (FX.o w3 X3.o (.bool true) (.slice aP nP cP) (.slice aS nS cS) (.int .i64 (k:Int)));have Oy:=ae (N3.o w3 X3.o (.bool true) (.slice aP nP cP) (.slice aS nS cS) (.int .i64 (k:Int)));have HR:=ae (show o=⟨true,pt,L,k⟩by rw[<-IA.o];exact vP QS.o);have OK:=ae ((u.o.pt.keep (fun j hj=>Oy.o j (j4 ((u.o.pt.lt j hj).1)))).mono (show w.heap.size<=B+1 by omega));have zW:=ae ((u.o.st.keep (fun j hj=>Oy.o j (j4 ((u.o.st.lt j hj).1)))).mono (show w.heap.size<=B+1 by omega));clear hk c0 k9;go_wp2_with fail;refine bodyPost_ret (v:=.agg #[.bool true,.slice aP nP cP,.slice aS nS cS,.int .i64 (k:Int)]) (by simp[results,Tryz.results7,go_sem,z0,z1,z2,z3]) rfl ⟨by rw[HR.o];exact⟨_,_,_,_,_,_,rfl,OK.o,zW.o⟩,HZ.o⟩
end Go.Proofs.YtalmoolkhcgmmaaGreat
