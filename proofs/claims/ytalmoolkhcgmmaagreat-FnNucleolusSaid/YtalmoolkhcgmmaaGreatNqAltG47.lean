import Derived.Test.YtalmoolkhcgmmaaGreatNqAltG25
import Derived.Test.YtalmoolkhcgmmaaGreatNqAltG42
import Derived.Test.YtalmoolkhcgmmaaGreatNqAltG43
import Derived.Test.YtalmoolkhcgmmaaGreatNqAltG8
import Derived.Test.YtalmoolkhcgmmaaGreatNqAltG14
import Derived.Test.YtalmoolkhcgmmaaGreatNqAltG15
set_option linter.unusedVariables false
set_option linter.unusedSimpArgs false
namespace Go.Proofs.YtalmoolkhcgmmaaGreat
variable{V:j9}{L:j5}{n:Nat}
set_option maxHeartbeats 16000000
set_option maxRecDepth 100000
open Go.RowKit
theorem o8.VX(w:World)(base:Nat)(x:Int)(hb:base<=w.heap.size):o8 (w.alloc (.cells #[.int .i64 x] 3)) base (.slice (some ⟨w.heap.size,0,none⟩) 1 1) [x] :=
 World.ownsRow_lit w #[.int .i64 x] 1 hb (by simp[maxLen]) rfl
theorem Qo{p:Int}(hn:V.length=n):dg p V L=decide (gT p (((n:Int)-1)::L.map fun f=>f.1)=p):=by
 unfold dg;rw[hn,pr]
theorem wj{a b:Bool}(h:a=b):Ending.returned (.bool a)=.returned (.bool b):=by rw[h]
theorem wo{w:World}{p:Int}{a:j8}{cap:Nat}(hn:V.length=n)(CH:n<=1000){Z:j8}{fn A1:Nat}(h:zk w Z fn A1 L)(hfn:fn<=1000000)(hL:∀f∈L,f.1<=1000):
 Calls Tryz.prog 38 #[pair p a n cap,.slice Z fn A1] w fun e w'=>e=.returned (.bool (dg p V L))/\Ext w w':=by
 obtain⟨W,hW⟩:=b8 (w.alloc (.cells #[.int .i64 p,.slice a n cap] 26));have HX:=ae (show Ext w W by rw[hW];exact Ext.alloc _ _);have yI:=ae (show W.heap.size=w.heap.size+1 by rw[hW];simp);have Ev:=ae (show W.cell? ⟨w.heap.size,0,none⟩=some (.int .i64 p)by rw[hW];simp);have FQ:=ae (show W.cell? ⟨w.heap.size,1,none⟩=some (.slice a n cap)by rw[hW];simp);have HF:=ae (h.ext HX.o);have EJ:=ae h.hlen;have y4:=ae hL;have GX:IntKind.i64.wrap ((n:Int)-1)=(n:Int)-1:=by rw[IntKind.wrap_i64];omega
 have HD:=ae (Qo (p:=p) (L:=L) hn);clear hn h hL;have Ft:=ae (show o8 (W.alloc (.cells #[.int .i64 ((n:Int)-1)] 3)) W.heap.size (.slice (some ⟨W.heap.size,0,none⟩) 1 1) (((n:Int)-1)::(L.take 0).map fun f=>f.1)from o8.VX _ _ _ (Nat.le_refl _));go_enter Tryz.func38,Tryz.ntmps38
 go_upto_region 1 with fail;rw[<-hW];have e0:=Ev.o;have e1:=FQ.o;rw[yI.o]at Ft;clear hW;go_wp2_with fail
 go_loopg [5,6] fn (fun gk ff ii wr=>∃(k:Nat) (R:j8) (I O:Nat),b7 (gk+k=fn)/\ff=.slice R I O/\ii=.int .i64 (k:Int)/\b7 (o8 wr (w.heap.size+1) (.slice R I O) (((n:Int)-1)::(L.take k).map fun f=>f.1))/\b7 (Ext W wr))
 case atStart=>exact⟨0,_,_,_,ae b9,by rw[yI.o],rfl,Ft,ae (Ext.alloc _ _)⟩
 case round =>
  obtain⟨g1,r7⟩:=b8 gk;subst r7;obtain⟨G,o6⟩:=b8 wr;subst o6;obtain⟨k,R,I,O,u,rfl,rfl,HO,J⟩:=hrel;have U:=J.o.size;rw[yI.o]at U;by_cases hlt:k<fn
  ·obtain⟨fb,Ei,P6,ZQ,Tp⟩:∃b off,Z=some ⟨b,off,none⟩/\L[k]?=some (L[k]?.getD (0,0,0))/\G.cell? ⟨b,off+k*3,none⟩=some (.int .i64 (L[k]?.getD (0,0,0)).1):=by
    obtain⟨b,off,e,hc⟩:=(HF.o.ext J.o).cell k hlt;have yQ:k<L.length:=by rw[EJ.o];exact hlt
    exact⟨b,off,e,by rw[List.getElem?_eq_getElem yQ];rfl,(hc k hlt).1⟩
   subst P6
   have AU:=ae (show(((n:Int)-1)::(L.take k).map fun f=>f.1)++[(L[k]?.getD (0,0,0)).1]=((n:Int)-1)::(L.take (k+1)).map fun f=>f.1 by
    rw[sS,<-il ZQ])
   obtain⟨s,hs⟩:=b8 ((L[k]?.getD (0,0,0)).1);rw[<-hs]at Tp AU;have Fv:=ae (show(((n:Int)-1)::(L.take k).map fun f=>f.1).length<=1000001 by rw[List.length_cons,List.length_map,List.length_take];omega);clear ZQ hs
   go_wp2_with (first
    | (at_builtin;refine bm rfl _ _ rfl (w.heap.size+1) (.slice R I O) _ rfl (HO.o.ext (Ext.alloc _ _)) _ 1 _ [s] rfl (Ints.Ad _ _ _ _ e7) (j4 Fv.o) (by simp;omega) ?_;intro v2 w2 ho hg l7;have X2:=ae ((J.o.trans (Ext.alloc _ _)).grown hg (fun j hj=>by rw[yI.o];exact(HO.o.lt j hj).1));obtain⟨a2,n2,c2,rfl,Fa⟩:=ho.var;have yE:=ae ho;clear ho hg l7))
   rw[AU.o]at yE
   go_roundg (g1-1)
   case measure=>have:=u.o;omega
   case rel=>exact⟨k+1,_,_,_,ae (j4 u.o),rfl,by go_num,yE,X2⟩
  ·have k7:k=fn:=by have:=u.o;omega
   have OC:=ae (show L.take k=L from List.take_of_length_le (by rw[EJ.o];omega));rw[OC.o]at HO;have hnF:I<=1000001:=by
    have h1:=HO.o.ints.hlen;simp only[List.length_cons,List.length_map]at h1;have:=EJ.o;omega
   have Kn:=ae (fun(w':World) (hx:Ext G w')=>La (n:=p) (HO.o.ext hx).ints (M8 (V:=V) b9 y4.o) b9);obtain⟨rk,J6⟩:=b8 (gT p (((n:Int)-1)::L.map fun f=>f.1));simp only[<-J6]at Kn HD;clear J6;have c0:=J.o.k6 Ev.o;have VE:=ae (show(rk == p)=dg p V L by rw[HD.o];rfl);go_wp2_with fail;have hk:Ext G G.drew:=Ext.drew G;refine wp_region_held_drew (S:=(fun w'=>w'.cell? ⟨w.heap.size,0,none⟩=some (.int .i64 p))) e8 ?_ (fun k9=>?_)
   ·exact hk.k6 c0
   refine tk 0 ?_;refine tk 1 ?_;refine tk 2 ?_;refine tk 4 ?_;refine tk 5 ?_;refine rd (i:=3) (h:=fun K hK=>?_);go_simp
   (go_at_call 86;refine(Kn.o _ hk).mono ?_;rintro e w3 ⟨rfl,wS⟩;have hk:=hk.trans wS)
   go_wp2_with fail;refine hK.out _ _ ?_ (fun k9=>?_)
   ·exact hk.k6 c0
   clear hK K
   try simp only[Act.put,sA,sB,sC]
   refine tk 6 ?_;refine tk 7 ?_;refine wpAnyH_done e8 ?_ _;have HZ:=ae ((HX.o.trans J.o).trans hk);clear hk c0 k9;go_wp2_with fail;go_ret;exact⟨wj VE.o,HZ.o⟩
theorem vO{p:Int}(h:(aZ p V&&p == 1)=false):wP p V ((wV V []).length+1) [] 0=yg p V:=by
 unfold yg;cases hg:aZ p V
 ·rw[if_neg e7];exact od (fun hc=>by have:=(fu hc.1).1;rw[hg]at this;cases this)
 ·rw[if_pos rfl];rw[hg,Bool.true_and]at h;rw[if_neg (by simpa using h)]
theorem vN{p:Int}{f k:Nat}(h:xH p V L=true)(hs:(ap p.toNat V L).status=1):
 wP p V (f+1) L k=if dg p V (bJ V L (ap p.toNat V L))=true then⟨true,Lp p.toNat (ap p.toNat V L),bJ V L (ap p.toNat V L),k+1⟩ else wP p V f (bJ V L (ap p.toNat V L)) (k+1):=by
 conv=>lhs;unfold wP
 rw[if_pos ⟨h,hs⟩]
theorem l8.VY(w:World)(base:Nat)(x y:Int)(hb:base<=w.heap.size):l8 (w.alloc (.cells #[.int .i64 x,.int .i64 y] 46)) base (.slice (some ⟨w.heap.size,0,none⟩) 1 1) [(x,y)] :=
 ⟨by simp[yL],.inr ⟨w.heap.size,1,_,rfl,hb,heap_alloc_new w _,Nat.le_refl _,by decide,rfl,by simp[yL]⟩⟩
theorem je{w:World}{p:Int}{a:j8}{cap:Nat}(h:Ints w a n cap V):
 Calls Tryz.prog 10 #[pair p a n cap] w fun e w'=>fY w' w.heap.size e (yg p V)/\Ext w w':=by
 obtain⟨W,hW⟩:=b8 ((w.alloc (.cells #[.int .i64 p,.slice a n cap] 26)).alloc (.cells #[.bool false,.slice none 0 0,.slice none 0 0,.int .i64 0] 33));have hws:W.heap.size=w.heap.size+2:=by rw[hW];simp
 have hX:Ext w W:=by rw[hW];exact(Ext.alloc _ _).trans (Ext.alloc _ _)
 have xU:=ae (show W.heap[w.heap.size+1]?=some (.cells #[.bool false,.slice none 0 0,.slice none 0 0,.int .i64 0] 33 (0,0))by rw[hW];exact ak _ _ _ e7);have Ev:=ae (show W.cell? ⟨w.heap.size,0,none⟩=some (.int .i64 p)by rw[hW];exact Ext.k6 (Ext.alloc _ _) e7);have FQ:=ae (show W.cell? ⟨w.heap.size,1,none⟩=some (.slice a n cap)by rw[hW];exact Ext.k6 (Ext.alloc _ _) e7);have HI:=ae (h.ext hX);have HX:=ae hX;have yD:=ae h.hlen;have hcapn:=h.o3;have hcapm:=h.l9;have B5:=ae (fun(w':World) (hx:Ext W w') (v0 v1 v2 v3:Value)=>Am (Pe ((hx.block _ b9).trans xU.o) v0 v1 v2 v3).1);have FX:=ae (fun(w':World) (hx:Ext W w') (v0 v1 v2 v3:Value)=>Q7 (w:=w) (r:=w.heap.size+1) (HX.o.trans hx) (Nat.le_succ _) v0 v1 v2 v3);have N3:=ae (fun(w':World) (hx:Ext W w') (v0 v1 v2 v3:Value)=>(Pe ((hx.block (w.heap.size+1) b9).trans xU.o) v0 v1 v2 v3).2);have QD:=ae (fun(w':World) (hx:Ext W w')=>Am ((hx.block _ b9).trans xU.o));obtain⟨B,hB⟩:=b8 (w.heap.size+2);obtain⟨w1,Ce⟩:=b8 (W.alloc (.cells #[.bool true,.slice none 0 0,.slice none 0 0,.int .i64 0] 33));have X1:=ae (show Ext W w1 by rw[Ce];exact Ext.alloc _ _)
 have xC:=ae (show yr W w1 B (.slice none 0 0) (.slice none 0 0) (.slice none 0 0) [] [] [] 0 from
  ⟨by rw[Ce];exact ak _ _ _ b9,l8.nil _ _,xm.nil _ _ _ _,World.ownsRow_nil _ _ _ _,X1.o,by omega⟩)
 have Kv:=ae (ep (p:=p) (HI.o.ext X1.o));obtain⟨gb,IX⟩:=b8 (aZ p V);rw[<-IX]at Kv;have yA:=ae IX;have DQ:=ae hB;have Tx:W.heap.size<=B:=by omega
 obtain⟨o,ho⟩:=b8 (yg p V);rw[<-ho];have HOO:=ae ho;clear h hX IX ho;go_enter Tryz.func10,Tryz.ntmps10
 go_upto_region 2 with fail;rw[<-hW,<-Ce,show w.heap.size+1+1=B from hB.symm];clear hW Ce hB
 go_cut [17] (fun s17 wx=>s17=.bool (gb&&p == 1)/\b7 (Ext w1 wx))
 case first =>
  have c0:=X1.o.k6 Ev.o;have c1:=X1.o.k6 FQ.o;cases gb
  ·go_wp2_with fail;refine Kv.o.mono ?_;rintro e wx ⟨rfl,hx⟩;have B9:=ae hx;clear hx;go_wp2_with fail;go_meet;exact⟨rfl,B9⟩
  ·go_wp2_with fail;refine Kv.o.mono ?_;rintro e wx ⟨rfl,hx⟩;have B9:=ae hx;have c0:=hx.k6 c0;have c1:=hx.k6 c1;clear hx;go_wp2_with fail;go_meet;exact⟨rfl,B9⟩
 obtain⟨rfl,Fp⟩:=hcut;have DN:=ae (xC.o.grow Fp.o);obtain⟨bb,zd⟩:=b8 ((gb&&p == 1));rw[<-zd];have AF:=ae zd;clear zd;generalize wc=w2 at DN Fp⊢;cases bb
 ·have HN:=ae (show wP p V ((wV V []).length+1) [] 0=o by rw[HOO.o];exact vO (by rw[<-yA.o];exact AF.o.symm));go_wp2_with fail
  go_loopg [] ((wV V []).length+1) (fun gk wr=>∃(k:Nat) (L:j5) (pt:j6) (vp vs:Value),b7 (gk+k=(wV V []).length+1)/\b7 (yr W wr B vp vs (.slice none 0 0) pt L [] k)/\b7 ((wV V L).length+1<=gk)/\b7 (∀f∈L,f.1<=1000)/\b7 (L.length<=32*k)/\b7 (k<=40)/\b7 (wP p V gk L k=o))
  case atStart=>exact⟨0,[],[],_,_,ae b9,DN,ae (Nat.le_refl _),ae (fun f hf=>by cases hf),ae e7,ae b9,HN⟩
  case round =>
   obtain⟨g1,r7⟩:=b8 gk;subst r7;obtain⟨o7,o6⟩:=b8 wr;subst o6;obtain⟨k,L,pt,vp,vs,HK,HO,OS,y4,zR,zD,IA⟩:=hrel;obtain⟨aS,nS,cS,rfl,QI⟩:=HO.o.st.var;have hk40:=zD.o;have hnS:nS<=1300:=by rw[<-QI.o];have:=zR.o;omega
   obtain⟨b0,b1,O,J,u⟩:=Am HO.o.box;have e0:=HO.o.ext.k6 Ev.o;have e1:=HO.o.ext.k6 FQ.o;have Yy:=ae (wm (p:=p) (HI.o.ext HO.o.ext) HO.o.st.EU b9);obtain⟨ok,xq⟩:=b8 (xH p V L);rw[<-xq]at Yy;have z7:=ae xq;clear xq;go_wp2_with fail;refine Yy.o.mono ?_;rintro e w4 ⟨Jv,xG⟩;obtain⟨la,Pu,Px,lb,Pt,Pw,lc,Ps,Pv,rfl,Th⟩:=Jv.lpc;unfold C8;obtain⟨w5,BZ⟩:=b8 (w4.alloc (bE la Pu Px lb Pt Pw lc Ps Pv));have zh:Ext w4 w5:=by rw[BZ];exact Ext.alloc _ _
   have K5:=ae (xG.trans zh);have X5:=ae (HO.o.ext.trans K5.o);have Iv:=py (Th.ext zh);obtain⟨r,hr⟩:=b8 (eB (EM p V L) (EL p V L) (EK p V L));rw[<-hr]at Iv;have En:=ae Iv;have OI:=ae hr;have t0:=au (show w5.heap[w4.heap.size]?=some (.cells #[.slice la Pu Px,.slice lb Pt Pw,.slice lc Ps Pv] 52 (0,0))by rw[BZ];exact ak _ _ _ rfl);have t1:=aH (show w5.heap[w4.heap.size]?=some (.cells #[.slice la Pu Px,.slice lb Pt Pw,.slice lc Ps Pv] 52 (0,0))by rw[BZ];exact ak _ _ _ rfl);have t2:=aI (show w5.heap[w4.heap.size]?=some (.cells #[.slice la Pu Px,.slice lb Pt Pw,.slice lc Ps Pv] 52 (0,0))by rw[BZ];exact ak _ _ _ rfl);have Ep:=ae K5.o.size;go_upto_region 6 with fail;rw[<-BZ];clear Iv hr BZ zh xG Th Jv b0 b1 O J u e0 e1;go_wp2_with fail;refine En.o.mono ?_;rintro e w6 ⟨⟨xa,xn,xc,ya,yn,yc,ra,rn,rc,rfl,Cv⟩,Oc⟩;obtain⟨w7,CX⟩:=b8 (w6.alloc (ce r xa xn xc ya yn yc ra rn rc));have SV:Ext w6 w7:=by rw[CX];exact Ext.alloc _ _
   have K7:=ae ((K5.o.trans Oc).trans SV);have X7:=ae (HO.o.ext.trans K7.o);have zy:=ae ((Cv.ext SV).mono Ep.o);have Cb:=ae (show w7.heap[w6.heap.size]?=some (ce r xa xn xc ya yn yc ra rn rc)by rw[CX];exact ak _ _ _ rfl);have Jk:=ae (show o7.heap.size<=w6.heap.size by have h1:=Oc.size;have h2:=Ep.o;omega);obtain⟨q,hq⟩:=b8 p.toNat
   have Bv:=ae (fun(h:ok=true)=>show r=ap q V L by
    have xq:=z7.o.symm.trans h;obtain⟨E1,E2,E3⟩:=ow xq;rw[OI.o,E1,E2,E3,hq]
    exact(LC xq).symm)
   have HQ:=ae hq;obtain⟨rs,rX,I,rr,⟨R,U⟩,rp⟩:=r;unfold A6;go_upto_region 7 with fail;rw[<-CX];clear Cv Oc SV CX t0 t1 t2 hq OI;generalize w6.heap.size=G at Cb Jk⊢;have JG:=lt_of_block Cb.o;obtain⟨l0,l1,l2,l3,l4,l5,l6,lf⟩:=xS Cb.o
   try simp only at l0 l1 l2 l3 l4 l5 l6
   by_cases hgo:ok=true/\rs=1
   ·obtain⟨rfl,rfl⟩:=hgo;obtain⟨hgm,Rn,_,_⟩:=fu z7.o.symm;obtain⟨_,Ya,xk,Au,Dq,_⟩:=fM hgm;have OJ:=ae (Bv.o rfl);have HSZ:=ae (kq z7.o.symm (by rw[<-HQ.o,<-OJ.o]));have HFE:=ae (mT z7.o.symm (by rw[<-HQ.o,<-OJ.o]));have NV:=ae (fun f=>vN (f:=f) (k:=k) z7.o.symm (by rw[<-HQ.o,<-OJ.o]));rw[<-HQ.o,<-OJ.o]at HSZ HFE NV;rw[<-HQ.o]at xk Au Dq;have HGM:=ae hgm;have yt:=ae xk;have CH:n<=32:=by rw[<-yD.o];exact Ya
    have BM:2<=q:=by omega
    clear hgm Ya xk;obtain⟨J2,L5,Fi,J1⟩:=HSZ.o
    try simp only at J2 L5 Fi J1
    have AD:=aQ Fi
    try simp only at AD
    have Yn:=ae J2;have Kj:=ae L5;have HYV:=ae J1;have Dn:q+1=yn:=by have h1:=zy.o.y.here.hlen;have h2:=Kj.o;(try simp only at h1);omega
    have HQ2:=ae BM;clear J2 L5 Fi J1 Rn;have FR:=ae (HO.o.grow K7.o);have OV:=ae HO.o.lt;have Iy:=ae (zZ.refl o7.heap.size w7);obtain⟨b0,b1,O,J,u⟩:=Am FR.o.box;obtain⟨k1,BH⟩:∃x:Int,x=(k:Int)+1:=⟨_,rfl⟩;have hwk:IntKind.i64.wrap ((k:Int)+1)=k1:=by rw[IntKind.wrap_i64];omega
    have HK1:=ae (show k1=((k+1:Nat):Int)by omega);clear BH;obtain⟨w8,hw8⟩:=b8 (w7.setCell ⟨B,3,none⟩ (.int .i64 k1));have Hd:=ae (FR.o.VM (k':=k+1) HK1.o);have OG:=ae (Iy.o.set (j:=3) OV.o (.int .i64 k1));rw[<-hw8]at Hd OG;go_upto_region 10 with fail;rw[<-hw8];clear hw8 b0 b1 O J u hwk;obtain⟨b0,b1,O,J,u⟩:=Am Hd.o.box;obtain⟨w9,Re⟩:=b8 (w8.setCell ⟨B,1,none⟩ (.slice none 0 0));have Ew:=ae (Hd.o.Sv (l8.nil _ _));have Ix:=ae (OG.o.set (j:=1) OV.o (.slice none 0 0));rw[<-Re]at Ew Ix;go_upto_region 11 with fail;rw[<-Re];clear Re b0 b1 O J u l0 l1 l2 l3 l4 l5 l6 lf;have Jn:=ae (Ix.o.blk Jk.o Cb.o);have HLRX:=ae (Ix.o.on zy.o.x);have Y4:=ae (Ix.o.on zy.o.y);go_wp2_with fail
    go_loopg [7] q (fun gk ii wr=>∃(j:Nat) (KG:Value),b7 (gk+j=q)/\ii=.int .i64 (j:Int)/\b7 (yr W wr B KG (.slice aS nS cS) (.slice none 0 0) ((I.take j).map wR) L [] (k+1))/\b7 (zZ o7.heap.size w9 wr)/\b7 (Off o7.heap.size w9.heap.size KG))
    case atStart=>exact⟨0,_,ae b9,rfl,Ew,ae (zZ.refl _ _),ae (Off.nil _ _ _ _)⟩
    case round =>
     obtain⟨g2,xK⟩:=b8 gk;subst xK;obtain⟨wr2,wT⟩:=b8 wr;subst wT;obtain⟨j,vp2,HJ,rfl,yE,Ax,JO⟩:=hrel;obtain⟨RV,Q9,RS,rfl,HNP2⟩:=yE.o.pt.var;have c0:=yE.o.ext.k6 Ev.o;by_cases Oi:j<q
     ·have Vc:j<yn:=by omega
      have hjp:(j:Int)<p:=by have:=yt.o;omega
      obtain⟨yb,xB,y1,y2,hye,U0,V7,V6⟩:=(Ax.o.on Y4.o).here.at Vc;subst hye
      try simp only at U0
      obtain⟨l0,l1,l2,l3,l4,l5,l6,lf⟩:=xS (Ax.o.blk Jk.o Jn.o)
      try simp only at l0 l1 l2 l3 l4 l5 l6
      obtain⟨b0,b1,O,J,u⟩:=Am yE.o.box
      have AU:=ae (show((I.take j).map wR)++[(-y1,y2)]=(I.take (j+1)).map wR by
       have zt:j<I.length:=by have:=Kj.o;omega
       rw[List.take_succ_eq_append_getElem zt,List.map_append,List.map_singleton];rw[List.getElem?_eq_getElem zt,Option.getD_some]at U0
       rw[U0];rfl)
      have F0:-9223372036854775807<=y1/\y1<=9223372036854775807:=by
       have:=aQ (HYV.o j (j4 Kj.o));rw[U0]at this;simp only at this;omega
      have Ex:=ae (show((I.take j).map wR).length<=100 by rw[List.length_map,List.length_take];omega);have QU:=ae yE.o.lt;have HYJ:=ae U0;clear U0;go_wp2_with fail;have yJ:Ext wr2 wr2.drew:=Ext.drew wr2;have k8:=ae (fun(w':World) (h:Ext wr2 w')=>(⟨h.k6 b1,h.k6 l2,h.k6 V7,h.k6 V6⟩:w'.cell? ⟨B,1,none⟩=some (.slice RV Q9 RS)/\w'.cell? ⟨G,2,none⟩=some (.slice (some ⟨yb,xB,none⟩) yn yc)/\w'.cell? ⟨yb,xB+j*2,none⟩=some (.int .i64 y1)/\w'.cell? ⟨yb,xB+j*2+1,none⟩=some (.int .i64 y2)));refine du (M:=[11]) (S:=fun w'=>w'.cell? ⟨B,1,none⟩=some (.slice RV Q9 RS)/\w'.cell? ⟨G,2,none⟩=some (.slice (some ⟨yb,xB,none⟩) yn yc)/\w'.cell? ⟨yb,xB+j*2,none⟩=some (.int .i64 y1)/\w'.cell? ⟨yb,xB+j*2+1,none⟩=some (.int .i64 y2)) e8 ?_;have k9:=k8.o _ yJ;obtain⟨wd,hwd⟩:=b8 wr2.drew;rw[<-hwd]at yJ k9;rw[<-hwd];clear hwd;refine lp 0 ?_;refine ll 1 ?_;refine lp 2 ?_;refine ll 3 ?_;refine lp 4 ?_;refine lp 5 ?_;refine ll 6 ?_;refine bh (i:=7) (oi:=?_) ?_ ?_ ?_ (fun K hK=>?_);rotate_left
      ·simp only[gA,gB,gC];rfl
      ·kernel_rfl
      ·kernel_rfl
      go_simp;go_at_call 36;refine(fE y1 y2 _ b9 b9).mono ?_;rintro e IG ⟨rfl,Bi⟩;have yJ:Ext wr2 IG:=yJ.trans Bi;have Ml:=yJ.size;go_wp2_with fail;refine hK.out _ _ (fun _=>k8.o _ yJ) ?_;have k9:=k8.o _ yJ;clear hK K
      try simp only[Act.put,sA,sB,sC]
      refine bh (i:=8) (oi:=?_) ?_ ?_ ?_ (fun K hK=>?_);rotate_left
      ·simp only[gA,gB,gC];rfl
      ·kernel_rfl
      ·kernel_rfl
      go_simp;refine hK.out _ _ (fun _=>k8.o _ (yJ.trans (Ext.alloc _ _))) ?_;clear hK K
      try simp only[Act.put,sA,sB,sC]
      refine bh (i:=9) (oi:=?_) ?_ ?_ ?_ (fun K hK=>?_);rotate_left
      ·simp only[gA,gB,gC];rfl
      ·kernel_rfl
      ·kernel_rfl
      refine ek _ _ j0 (B+1) (.slice RV Q9 RS) _ j0 (yE.o.pt.ext (yJ.trans (Ext.alloc _ _))) _ 1 _ [(-y1,y2)] j0 (r8.one' _ _ _ _ _ e7) (j4 Ex.o) (by have h2:=QU.o;simp;omega) ?_;intro v13 Jo ho hg l7;have N8:=ae ((hg.block B (by have h2:=QU.o;simp;omega) (fun e=>by have:=(yE.o.pt.lt B e.symm).1;omega)).trans ((yJ.trans (Ext.alloc _ _)).blk yE.o.box));have E6:=ae ((Ax.o.ext (yJ.trans (Ext.alloc _ _))).grown hg JO.o);have JR:=ae (JO.o.near l7 (by have h1:=Ax.o.size;simp;omega));obtain⟨Ow,n13,c13,rfl,R6⟩:=ho.var;have Bd:=ae (yE.o.Yb (yJ.trans (Ext.alloc _ _)) hg ho);obtain⟨c0,c1,c2,c3,cf⟩:=Am N8.o;obtain⟨m0,m1,m2,m3,m4,m5,m6,mf⟩:=xS (E6.o.blk Jk.o Jn.o)
      (try simp only at m0 m1 m2 m3 m4 m5 m6)
      obtain⟨yb',VG,y1',y2',V5,V4,SO,SN⟩:=(E6.o.on Y4.o).here.at Vc;simp only[Option.some.injEq,Addr.mk.injEq,and_true]at V5;obtain⟨rfl,rfl⟩:=V5;have V8:=HYJ.o.symm.trans V4;simp only[Prod.mk.injEq]at V8;obtain⟨rfl,rfl⟩:=V8;clear ho hg l7 V4;refine hK.out _ _ (fun _=>And.intro c1 (And.intro m2 (And.intro SO SN))) ?_;have k9:=And.intro c1 (And.intro m2 (And.intro SO SN));clear hK K
      try simp only[Act.put,sA,sB,sC]
      refine lp 10 ?_;refine dH (i:=11) (oi:=?_) (w':=?_) ?_ ?_ ?_ ?_ ?_ ?_ ?_;rotate_left 2
      ·simp only[gA,gB,gC];rfl
      ·kernel_rfl
      ·kernel_rfl
      ·exact of_decide_eq_true e8
      ·rfl
      ·go_simp;(try with_reducible rfl)
      try simp only[Act.put,sA,sB,sC]
      refine dL e8 ?_ _;rw[AU.o]at Bd;obtain⟨w14,D2⟩:=b8 (Jo.setCell ⟨B,1,none⟩ (.slice Ow n13 c13));have FO:=ae (E6.o.set (j:=1) OV.o (.slice Ow n13 c13));rw[<-D2]at Bd FO;go_upto_region 13 with fail;rw[<-D2];clear D2 c0 c1 c2 c3 cf m0 m1 m2 m3 m4 m5 m6 mf b0 b1 O J u l0 l1 l2 l3 l4 l5 l6 lf SO SN V7 V6 k9 yJ k8;go_wp2_with fail
      go_roundg (g2-1)
      case measure=>have:=HJ.o;omega
      case rel=>exact⟨j+1,_,ae (j4 HJ.o),by go_num,Bd,FO,JR⟩
     ·have Xk:j=q:=by have:=HJ.o;omega
      have hjp:¬(j:Int)<p:=by have:=yt.o;omega
      rw[Xk]at yE;have HS2':=ae Ax.o;obtain⟨b0,b1,O,J,u⟩:=Am yE.o.box;have e1:=yE.o.ext.k6 FQ.o;have UJ:=ae (kw p a n cap b9 yE.o.st.EU);clear Xk;go_wp2_with fail;refine UJ.o.mono ?_;rintro e Hi ⟨⟨v,rfl,ho⟩,Hv⟩;obtain⟨a11,m,c11,rfl,HM⟩:=ho.var;have Uz:=ae (yE.o.grow Hv);have GN:=ae (Ax.o.ext Hv);have HS911:=ae (show w9.heap.size<=Hi.heap.size from GN.o.size);have Sa:=ae (show bd L (n-2)=wV V L by unfold wV;rw[yD.o]);rw[Sa.o]at ho HM;have QP:=ae (ho.mono (show o7.heap.size<=wr2.heap.size by have h1:=Ax.o.size;have h2:=Ix.o.size;have h3:=K7.o.size;omega));have NZ:=ae (GN.o.on HLRX.o);have N9:=ae (GN.o.blk Jk.o Jn.o);have HOS:=ae (Off.of (hi:=Hi.heap.size) HO.o.st.lt (Nat.le_refl _));have hmx:m<=xn:=by have h1:=NZ.o.here.hlen;have h2:=Yn.o;have h3:=HM.o;(try simp only at h1);omega
      have Xa:m<=32:=by
       have h1:(wV V L).length<=V.length-2:=ew L (V.length-2);have h2:=yD.o;have h3:=HM.o;omega
      have NS:=ae (show(L++yf (wV V L) ⟨1,rX,I,rr,(R,U),rp⟩ 0)=L by rw[oZ,List.append_nil]);clear ho Hv b0 b1 O J u e1 c0 hjp Oi;go_wp2_with fail
      go_loopg [9] m (fun gk ii wr=>∃(j:Nat) (vs':Value),b7 (gk+j=m)/\ii=.int .i64 (j:Int)/\b7 (yr W wr B (.slice RV Q9 RS) vs' (.slice none 0 0) ((I.take q).map wR) (L++yf (wV V L) ⟨1,rX,I,rr,(R,U),rp⟩ j) [] (k+1))/\b7 (zZ o7.heap.size Hi wr)/\b7 (Off o7.heap.size Hi.heap.size vs'))
      case atStart=>exact⟨0,_,ae b9,rfl,ae (by rw[NS.o];exact Uz.o),ae (zZ.refl _ _),HOS⟩
      case round =>
       obtain⟨g3,Dg⟩:=b8 gk;subst Dg;obtain⟨wr3,A0⟩:=b8 wr;subst A0;obtain⟨Z,vs3,Y9,rfl,xp,DL,Uv⟩:=hrel;obtain⟨T5,Q8,TU,rfl,HNS3⟩:=xp.o.st.var;by_cases DE:Z<m
       ·have MC:Z<xn:=by omega
        obtain⟨fb,Ei,P6,Tp⟩:=(DL.o.ints (Nat.le_refl _) QP.o).ints.at DE;subst P6;obtain⟨xb,Cc,x1,x2,SR,SQ,hxc1,hxc2⟩:=(DL.o.on NZ.o).here.at MC;subst SR;obtain⟨l0,l1,l2,l3,l4,l5,l6,lf⟩:=xS (DL.o.blk Jk.o N9.o)
        try simp only at l0 l1 l2 l3 l4 l5 l6 SQ
        obtain⟨s,hs⟩:=b8 ((wV V L)[Z]?.getD 0);rw[<-hs]at Tp;by_cases wI:0<x1
        ·have Kp:=ae (show(L++yf (wV V L) ⟨1,rX,I,rr,(R,U),rp⟩ Z)++[(s,-R,U)]=L++yf (wV V L) ⟨1,rX,I,rr,(R,U),rp⟩ (Z+1)by
          rw[ja,if_pos (by show 0<(rX[Z]?.getD (0,0)).1;rw[SQ];exact wI),<-hs,List.append_assoc])
         obtain⟨b0,b1,O,J,u⟩:=Am xp.o.box
         have Ex:=ae (show(L++yf (wV V L) ⟨1,rX,I,rr,(R,U),rp⟩ Z).length<=2000 by
          rw[List.length_append];have h1:=lT (wV V L) ⟨1,rX,I,rr,(R,U),rp⟩ Z;have h2:=zR.o
          omega)
         have QU:=ae xp.o.lt;have RZ:=ae hs;clear hs;go_wp2_with fail;have yJ:Ext wr3 wr3.drew:=Ext.drew wr3;have k8:=ae (fun(w':World) (h:Ext wr3 w')=>(⟨h.k6 O,h.k6 l4,h.k6 l5,h.k6 Tp⟩:w'.cell? ⟨B,2,none⟩=some (.slice T5 Q8 TU)/\w'.cell? ⟨G,4,none⟩=some (.int .i64 R)/\w'.cell? ⟨G,5,none⟩=some (.int .i64 U)/\w'.cell? ⟨fb,Ei+Z,none⟩=some (.int .i64 s)));refine du (M:=[13]) (S:=fun w'=>w'.cell? ⟨B,2,none⟩=some (.slice T5 Q8 TU)/\w'.cell? ⟨G,4,none⟩=some (.int .i64 R)/\w'.cell? ⟨G,5,none⟩=some (.int .i64 U)/\w'.cell? ⟨fb,Ei+Z,none⟩=some (.int .i64 s)) e8 ?_;have k9:=k8.o _ yJ;obtain⟨wd,hwd⟩:=b8 wr3.drew;rw[<-hwd]at yJ k9;rw[<-hwd];clear hwd;refine lp 0 ?_;refine ll 1 ?_;refine lp 2 ?_;refine lp 3 ?_;refine lp 4 ?_;refine ll 5 ?_;refine lp 6 ?_;refine ll 7 ?_;refine bh (i:=8) (oi:=?_) ?_ ?_ ?_ (fun K hK=>?_);rotate_left
         ·simp only[gA,gB,gC];rfl
         ·kernel_rfl
         ·kernel_rfl
         go_simp;go_at_call 36;refine(fE R U _ b9 b9).mono ?_;rintro e IG ⟨rfl,Bi⟩;have yJ:Ext wr3 IG:=yJ.trans Bi;have Ml:=yJ.size;go_wp2_with fail;refine hK.out _ _ (fun _=>k8.o _ yJ) ?_;have k9:=k8.o _ yJ;clear hK K
         try simp only[Act.put,sA,sB,sC]
         refine lp 9 ?_;refine bh (i:=10) (oi:=?_) ?_ ?_ ?_ (fun K hK=>?_);rotate_left
         ·simp only[gA,gB,gC];rfl
         ·kernel_rfl
         ·kernel_rfl
         go_simp;refine hK.out _ _ (fun _=>k8.o _ (yJ.trans (Ext.alloc _ _))) ?_;clear hK K
         try simp only[Act.put,sA,sB,sC]
         refine bh (i:=11) (oi:=?_) ?_ ?_ ?_ (fun K hK=>?_);rotate_left
         ·simp only[gA,gB,gC];rfl
         ·kernel_rfl
         ·kernel_rfl
         refine fF Ae Tryz.DR rfl Tryz.underlying31 (by decide) _ _ j0 (B+1) (.slice T5 Q8 TU) _ j0 (xp.o.st.ext (yJ.trans (Ext.alloc _ _))) _ 1 1 [(s,-R,U)] j0 (F8.lit Ae _ _ _ 1 j0 _ j0 _ j0 b9) (j4 Ex.o) (by have h2:=QU.o;simp;omega) ?_;intro v13 Jo ho hg l7;have N8:=ae ((hg.block B (by have h2:=QU.o;simp;omega) (fun e=>by have:=(xp.o.st.lt B e.symm).1;omega)).trans ((yJ.trans (Ext.alloc _ _)).blk xp.o.box));have E6:=ae ((DL.o.ext (yJ.trans (Ext.alloc _ _))).grown hg Uv.o);have JR:=ae (Uv.o.near l7 (by have h1:=DL.o.size;simp;omega));obtain⟨Ow,n13,c13,rfl,R6⟩:=ho.var;have Bd:=ae (xp.o.RN (yJ.trans (Ext.alloc _ _)) hg ho);obtain⟨c0,c1,c2,c3,cf⟩:=Am N8.o;obtain⟨m0,m1,m2,m3,m4,m5,m6,mf⟩:=xS (E6.o.blk Jk.o N9.o)
         (try simp only at m0 m1 m2 m3 m4 m5 m6)
         obtain⟨fb',foff',Xu,P7⟩:=(E6.o.ints (Nat.le_refl _) QP.o).ints.at DE;simp only[Option.some.injEq,Addr.mk.injEq,and_true]at Xu;obtain⟨rfl,rfl⟩:=Xu;rw[<-RZ.o]at P7;clear ho hg l7;refine hK.out _ _ (fun _=>And.intro c2 (And.intro m4 (And.intro m5 P7))) ?_;have k9:=And.intro c2 (And.intro m4 (And.intro m5 P7));clear hK K
         try simp only[Act.put,sA,sB,sC]
         refine lp 12 ?_;refine dH (i:=13) (oi:=?_) (w':=?_) ?_ ?_ ?_ ?_ ?_ ?_ ?_;rotate_left 2
         ·simp only[gA,gB,gC];rfl
         ·kernel_rfl
         ·kernel_rfl
         ·exact of_decide_eq_true e8
         ·rfl
         ·go_simp;(try with_reducible rfl)
         try simp only[Act.put,sA,sB,sC]
         refine dL e8 ?_ _;rw[Kp.o]at Bd;obtain⟨w14,D2⟩:=b8 (Jo.setCell ⟨B,2,none⟩ (.slice Ow n13 c13));have FO:=ae (E6.o.set (j:=2) OV.o (.slice Ow n13 c13));rw[<-D2]at Bd FO;go_upto_region 18 with fail;rw[<-D2];clear D2 c0 c1 c2 c3 cf m0 m1 m2 m3 m4 m5 m6 mf b0 b1 O J u l0 l1 l2 l3 l4 l5 l6 lf k9 yJ k8 Tp P7;go_wp2_with fail
         go_roundg (g3-1)
         case measure=>have:=Y9.o;omega
         case rel=>exact⟨Z+1,_,ae (j4 Y9.o),by go_num,Bd,FO,JR⟩
        ·have Kp:=ae (show(L++yf (wV V L) ⟨1,rX,I,rr,(R,U),rp⟩ Z)=L++yf (wV V L) ⟨1,rX,I,rr,(R,U),rp⟩ (Z+1)by
          rw[ja,if_neg (by show¬0<(rX[Z]?.getD (0,0)).1;rw[SQ];exact wI),List.append_nil])
         clear hs;go_wp2_with fail
         go_roundg (g3-1)
         case measure=>have:=Y9.o;omega
         case rel=>exact⟨Z+1,_,ae (j4 Y9.o),by go_num,ae (by rw[<-Kp.o];exact xp.o),DL,Uv⟩
       ·have D9:Z=m:=by have:=Y9.o;omega
        have HE:=ae (show L++yf (wV V L) ⟨1,rX,I,rr,(R,U),rp⟩ Z=bJ V L ⟨1,rX,I,rr,(R,U),rp⟩by unfold bJ;rw[HM.o,D9]);rw[HE.o]at xp;clear D9;obtain⟨N,hN⟩:=b8 (bJ V L ⟨1,rX,I,rr,(R,U),rp⟩);have Ct:=ae (te (V:=V) (L:=L) (r:=⟨1,rX,I,rr,(R,U),rp⟩) (k:=k) (by rw[yD.o];exact CH) y4.o zR.o);have GP:=ae (NV.o (g1-1));have Jl:=ae (show g1-1+1=g1 by have:=OS.o;omega);rw[Jl.o,IA.o]at GP;have Zf:=ae HFE.o;rw[<-hN]at xp Ct GP Zf;clear hN;have hnS3:Q8<=100000:=by have h1:=HNS3.o;have h2:=Ct.o.2;have h3:=xp.o.st.EU.hlen;omega
        have GR:=ae (wo (p:=p) (a:=a) (cap:=cap) yD.o b9 xp.o.st.EU b9 Ct.o.1);obtain⟨d,hd⟩:=b8 (dg p V N);rw[<-hd]at GR GP;obtain⟨b0,b1,O,J,u⟩:=Am xp.o.box;have e0:=xp.o.ext.k6 Ev.o;have e1:=xp.o.ext.k6 FQ.o;clear hd;go_wp2_with fail;refine GR.o.mono ?_;rintro e Bz ⟨rfl,L7⟩;have Dl:=ae (xp.o.grow L7);clear b0 b1 O J u e0 e1 L7;cases d
        ·have HR:=ae (show wP p V (g1-1) N (k+1)=o from GP.o.symm);go_wp2_with fail
         go_roundg (g1-1)
         case measure=>have:=OS.o;omega
         case rel=>exact⟨k+1,N,_,_,_,ae (by have h1:=HK.o;have h2:=OS.o;omega),Dl,ae (by have h1:=Zf.o;have h2:=OS.o;omega),ae Ct.o.1,ae Ct.o.2,ae (by have h1:=HK.o;have h2:=OS.o;have h3:(wV V []).length<=V.length-2:=ew [] (V.length-2);have h4:=yD.o;omega),HR⟩
        ·have HR:=ae (show o=⟨true,(I.take q).map wR,N,k+1⟩from GP.o);obtain⟨b0,b1,O,J,u⟩:=Am Dl.o.box;have Vq:=ae Dl.o.ext;obtain⟨q0,q1,q2,q3,qf⟩:=QD.o Bz Vq.o;obtain⟨kk,MA⟩:∃x:Int,x=((k+1:Nat):Int):=⟨_,rfl⟩;rw[<-MA]at J;have Bg:=ae MA;clear MA;obtain⟨z0,z1,z2,z3,_⟩:=B5.o Bz Vq.o (.bool true) (.slice RV Q9 RS) (.slice T5 Q8 TU) (.int .i64 kk);have HZ:=ae (FX.o Bz Vq.o (.bool true) (.slice RV Q9 RS) (.slice T5 Q8 TU) (.int .i64 kk));have Oy:=ae (N3.o Bz Vq.o (.bool true) (.slice RV Q9 RS) (.slice T5 Q8 TU) (.int .i64 kk));have OK:=ae ((Dl.o.pt.keep (fun j hj=>Oy.o j (j4 ((Dl.o.pt.lt j hj).1)))).mono (show w.heap.size<=B+1 by omega));have zW:=ae ((Dl.o.st.keep (fun j hj=>Oy.o j (j4 ((Dl.o.st.lt j hj).1)))).mono (show w.heap.size<=B+1 by omega));go_wp2_with fail;refine bodyPost_ret (v:=.agg #[.bool true,.slice RV Q9 RS,.slice T5 Q8 TU,.int .i64 kk]) (by simp[results,Tryz.results10,go_sem,z0,z1,z2,z3]) rfl ⟨by rw[HR.o];exact⟨_,_,_,_,_,_,by rw[Bg.o],OK.o,zW.o⟩,HZ.o⟩
   ·have DO:=ae (show o=BK.no by
     rw[<-IA.o];refine od (fun h=>hgo ?_);rw[<-z7.o,<-HQ.o]at h;refine⟨h.1,?_⟩;have h2:=h.2;rw[<-Bv.o h.1]at h2
     exact h2)
    obtain⟨q0,q1,q2,q3,qf⟩:=QD.o w7 X7.o;obtain⟨z0,z1,z2,z3,_⟩:=B5.o w7 X7.o (.bool false) (.slice none 0 0) (.slice none 0 0) (.int .i64 0);have HZ:=ae (FX.o w7 X7.o (.bool false) (.slice none 0 0) (.slice none 0 0) (.int .i64 0));cases ok
    ·go_wp2_with fail;refine bodyPost_ret (v:=.agg #[.bool false,.slice none 0 0,.slice none 0 0,.int .i64 0]) (by simp[results,Tryz.results10,go_sem,z0,z1,z2,z3]) rfl ⟨by rw[DO.o];exact fY.no _ _,HZ.o⟩
    ·have F3:(rs != 1)=true:=by
      have:rs≠1:=fun h=>hgo ⟨rfl,h⟩
      simp[this]
     go_wp2_with fail;refine bodyPost_ret (v:=.agg #[.bool false,.slice none 0 0,.slice none 0 0,.int .i64 0]) (by simp[results,Tryz.results10,go_sem,z0,z1,z2,z3]) rfl ⟨by rw[DO.o];exact fY.no _ _,HZ.o⟩
 ·have CG:p=1:=by
   have:=AF.o;cases gb
   ·cases this
   ·simpa using this.symm
  have CK:aZ p V=true:=by
   have:=AF.o;rw[<-yA.o];cases gb
   ·cases this
   ·rfl
  have Vv:=ae (show o=⟨true,[(bD p V,1)],[],0⟩by rw[HOO.o];unfold yg;rw[if_pos CK,if_pos CG]);have Ez:=ae (iG (p:=p) (HI.o.ext DN.o.ext));obtain⟨g,hg⟩:=b8 (bD p V);rw[<-hg]at Ez Vv;have c0:=DN.o.ext.k6 Ev.o;have c1:=DN.o.ext.k6 FQ.o;clear CG CK hg;go_wp2_with fail;refine Ez.o.mono ?_;rintro e w3 ⟨rfl,wS⟩;go_wp2_with fail;refine(cl g _).mono ?_;rintro e w4 ⟨rfl,xG⟩;have zh:Ext w2 (w4.alloc (.cells #[.int .i64 g,.int .i64 1] 46)):=(wS.trans xG).trans (Ext.alloc _ _);have xL:=ae (DN.o.grow zh);have OL:=ae (l8.VY w4 (B+1) g 1 (by have h1:=DN.o.lt;have h2:=(wS.trans xG).size;omega));have BU:=ae (xL.o.Sv OL.o);obtain⟨b0,b1,O,J,u⟩:=Am xL.o.box;obtain⟨w6,FB⟩:=b8 ((w4.alloc (.cells #[.int .i64 g,.int .i64 1] 46)).setCell ⟨B,1,none⟩ (.slice (some ⟨w4.heap.size,0,none⟩) 1 1));rw[<-FB]at BU;clear wS xG zh c0 c1;go_upto_region 4 with fail;rw[<-FB];generalize w4.heap.size=G at BU⊢;clear FB b0 b1 O J u;obtain⟨b0,b1,O,J,u⟩:=Am BU.o.box;have X6:=ae BU.o.ext;obtain⟨q0,q1,q2,q3,qf⟩:=QD.o w6 X6.o;obtain⟨z0,z1,z2,z3,_⟩:=B5.o w6 X6.o (.bool true) (.slice (some ⟨G,0,none⟩) 1 1) (.slice none 0 0) (.int .i64 0);have HZ:=ae (FX.o w6 X6.o (.bool true) (.slice (some ⟨G,0,none⟩) 1 1) (.slice none 0 0) (.int .i64 0))
  have Oy:=ae (N3.o w6 X6.o (.bool true) (.slice (some ⟨G,0,none⟩) 1 1) (.slice none 0 0) (.int .i64 0));have OK:=ae ((BU.o.pt.keep (fun j hj=>Oy.o j (j4 ((BU.o.pt.lt j hj).1)))).mono (show w.heap.size<=B+1 by omega));have zW:=ae ((BU.o.st.keep (fun j hj=>Oy.o j (j4 ((BU.o.st.lt j hj).1)))).mono (show w.heap.size<=B+1 by omega));go_wp2_with fail;refine bodyPost_ret (v:=.agg #[.bool true,.slice (some ⟨G,0,none⟩) 1 1,.slice none 0 0,.int .i64 0]) (by simp[results,Tryz.results10,go_sem,z0,z1,z2,z3]) rfl ⟨by rw[Vv.o];exact⟨_,_,_,_,_,_,rfl,OK.o,zW.o⟩,HZ.o⟩
end Go.Proofs.YtalmoolkhcgmmaaGreat
