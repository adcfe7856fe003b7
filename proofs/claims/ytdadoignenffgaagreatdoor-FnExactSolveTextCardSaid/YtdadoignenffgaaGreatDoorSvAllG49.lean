import Derived.Test.YtdadoignenffgaaGreatDoorSvAllG37
import Derived.Test.YtdadoignenffgaaGreatDoorSvAllG44
import Derived.Test.YtdadoignenffgaaGreatDoorSvAllG45
import Derived.Test.YtdadoignenffgaaGreatDoorSvAllG23
import Derived.Test.YtdadoignenffgaaGreatDoorSvAllG30
import Derived.Test.YtdadoignenffgaaGreatDoorSvAllG16
set_option linter.unusedVariables false
set_option linter.unusedSimpArgs false
namespace Go.Proofs.YtdadoignenffgaaGreatDoor
variable{V:j7}{L:j2}{n:Nat}
set_option maxHeartbeats 16000000
set_option maxRecDepth 100000
open Go.RowKit
theorem o5.Sr(w:World)(base:Nat)(x:Int)(hb:base<=w.heap.size):o5 (w.alloc (.cells #[.int .i64 x] 3)) base (.slice (some ⟨w.heap.size,0,none⟩) 1 1) [x] :=
 World.ownsRow_lit w #[.int .i64 x] 1 hb (by simp[maxLen]) rfl
theorem Nw{p:Int}(hn:V.length=n):dX p V L=decide (gq p (((n:Int)-1)::L.map fun f=>f.1)=p):=by
 unfold dX;rw[hn,ur]
theorem uz{a b:Bool}(h:a=b):Ending.returned (.bool a)=.returned (.bool b):=by rw[h]
theorem uD{w:World}{p:Int}{a:j6}{cap:Nat}(hn:V.length=n)(BS:n<=1000){Z:j6}{fn zw:Nat}(h:xV w Z fn zw L)(hfn:fn<=1000000)(hL:∀f∈L,f.1<=1000):
 Calls Tryz.prog 56 #[pair p a n cap,.slice Z fn zw] w fun e w'=>e=.returned (.bool (dX p V L))/\Ext w w':=by
 obtain⟨W,hW⟩:=b9 (w.alloc (.cells #[.int .i64 p,.slice a n cap] 32));have HX:=ae (show Ext w W by rw[hW];exact Ext.alloc _ _);have O:=ae (show W.heap.size=w.heap.size+1 by rw[hW];simp);have Bh:=ae (show W.cell? ⟨w.heap.size,0,none⟩=some (.int .i64 p)by rw[hW];simp);have Ee:=ae (show W.cell? ⟨w.heap.size,1,none⟩=some (.slice a n cap)by rw[hW];simp);have HF:=ae (h.ext HX.o);have C2:=ae h.hlen;have xi:=ae hL;have FU:IntKind.i64.wrap ((n:Int)-1)=(n:Int)-1:=by rw[IntKind.wrap_i64];omega
 have HD:=ae (Nw (p:=p) (L:=L) hn);clear hn h hL;have O4:=ae (show o5 (W.alloc (.cells #[.int .i64 ((n:Int)-1)] 3)) W.heap.size (.slice (some ⟨W.heap.size,0,none⟩) 1 1) (((n:Int)-1)::(L.take 0).map fun f=>f.1)from o5.Sr _ _ _ (Nat.le_refl _));go_enter Tryz.func56,Tryz.ntmps56
 go_upto_region 1 with fail;rw[<-hW];have e0:=Bh.o;have e1:=Ee.o;rw[O.o]at O4;clear hW;go_wp2_with fail
 go_loopg [5,6] fn (fun gk ff ii wr=>∃(k:Nat) (U:j6) (G Q:Nat),b7 (gk+k=fn)/\ff=.slice U G Q/\ii=.int .i64 (k:Int)/\b7 (o5 wr (w.heap.size+1) (.slice U G Q) (((n:Int)-1)::(L.take k).map fun f=>f.1))/\b7 (Ext W wr))
 case atStart=>exact⟨0,_,_,_,ae e7,by rw[O.o],rfl,O4,ae (Ext.alloc _ _)⟩
 case round =>
  obtain⟨g1,o6⟩:=b9 gk;subst o6;obtain⟨E,o4⟩:=b9 wr;subst o4;obtain⟨k,U,G,Q,HK,rfl,rfl,HO,J⟩:=hrel;have hsz:=J.o.size;rw[O.o]at hsz;by_cases hlt:k<fn
  ·obtain⟨fb,CE,Ng,I,Qb⟩:∃b off,Z=some ⟨b,off,none⟩/\L[k]?=some (L[k]?.getD (0,0,0))/\E.cell? ⟨b,off+k*3,none⟩=some (.int .i64 (L[k]?.getD (0,0,0)).1):=by
    obtain⟨b,off,e,hc⟩:=(HF.o.ext J.o).cell k hlt;have Ab:k<L.length:=by rw[C2.o];exact hlt
    exact⟨b,off,e,by rw[List.getElem?_eq_getElem Ab];rfl,(hc k hlt).1⟩
   subst Ng
   have xZ:=ae (show(((n:Int)-1)::(L.take k).map fun f=>f.1)++[(L[k]?.getD (0,0,0)).1]=((n:Int)-1)::(L.take (k+1)).map fun f=>f.1 by
    rw[rm,<-es I])
   obtain⟨s,hs⟩:=b9 ((L[k]?.getD (0,0,0)).1);rw[<-hs]at Qb xZ;have H7:=ae (show(((n:Int)-1)::(L.take k).map fun f=>f.1).length<=1000001 by rw[List.length_cons,List.length_map,List.length_take];omega);clear I hs
   go_wp2_with (first
    | (at_builtin;refine bv rfl _ _ rfl (w.heap.size+1) (.slice U G Q) _ rfl (HO.o.ext (Ext.alloc _ _)) _ 1 _ [s] rfl (Ints.zp _ _ _ _ e8) (j1 H7.o) (by simp;omega) ?_;intro v2 w2 ho hg l7;have X2:=ae ((J.o.trans (Ext.alloc _ _)).grown hg (fun j hj=>by rw[O.o];exact(HO.o.lt j hj).1));obtain⟨a2,n2,c2,rfl,ED⟩:=ho.var;have wG:=ae ho;clear ho hg l7))
   rw[xZ.o]at wG
   go_roundg (g1-1)
   case measure=>have:=HK.o;omega
   case rel=>exact⟨k+1,_,_,_,ae (j1 HK.o),rfl,by go_num,wG,X2⟩
  ·have k7:k=fn:=by have:=HK.o;omega
   have Ur:=ae (show L.take k=L from List.take_of_length_le (by rw[C2.o];omega));rw[Ur.o]at HO;have hnF:G<=1000001:=by
    have h1:=HO.o.ints.hlen;simp only[List.length_cons,List.length_map]at h1;have:=C2.o;omega
   have Iy:=ae (fun(w':World) (hx:Ext E w')=>I6 (n:=p) (HO.o.ext hx).ints (KE (V:=V) e7 xi.o) e7);obtain⟨rk,PT⟩:=b9 (gq p (((n:Int)-1)::L.map fun f=>f.1));simp only[<-PT]at Iy HD;clear PT;have c0:=J.o.j9 Bh.o;have EI:=ae (show(rk == p)=dX p V L by rw[HD.o];rfl);go_wp2_with fail;have hk:Ext E E.drew:=Ext.drew E;refine wp_region_held_drew (S:=(fun w'=>w'.cell? ⟨w.heap.size,0,none⟩=some (.int .i64 p))) e9 ?_ (fun k9=>?_)
   ·exact hk.j9 c0
   refine tk 0 ?_;refine tk 1 ?_;refine tk 2 ?_;refine tk 4 ?_;refine tk 5 ?_;refine rd (i:=3) (h:=fun K hK=>?_);go_simp
   (go_at_call 114;refine(Iy.o _ hk).mono ?_;rintro e w3 ⟨rfl,vj⟩;have hk:=hk.trans vj)
   go_wp2_with fail;refine hK.out _ _ ?_ (fun k9=>?_)
   ·exact hk.j9 c0
   clear hK K
   try simp only[Act.put,sA,sB,sC]
   refine tk 6 ?_;refine tk 7 ?_;refine wpAnyH_done e9 ?_ _;have HZ:=ae ((HX.o.trans J.o).trans hk);clear hk c0 k9;go_wp2_with fail;go_ret;exact⟨uz EI.o,HZ.o⟩
theorem uj{p:Int}(h:(aH p V&&p == 1)=false):Ay p V ((wM V []).length+1) [] 0=zr p V:=by
 unfold zr;cases hg:aH p V
 ·rw[if_neg e8];exact mH (fun hc=>by have:=(gu hc.1).1;rw[hg]at this;cases this)
 ·rw[if_pos rfl];rw[hg,Bool.true_and]at h;rw[if_neg (by simpa using h)]
theorem ui{p:Int}{f k:Nat}(h:wu p V L=true)(hs:(bQ p.toNat V L).status=1):
 Ay p V (f+1) L k=if dX p V (de V L (bQ p.toNat V L))=true then⟨true,Vo p.toNat (bQ p.toNat V L),de V L (bQ p.toNat V L),k+1⟩ else Ay p V f (de V L (bQ p.toNat V L)) (k+1):=by
 conv=>lhs;unfold Ay
 rw[if_pos ⟨h,hs⟩]
theorem l9.Ss(w:World)(base:Nat)(x y:Int)(hb:base<=w.heap.size):l9 (w.alloc (.cells #[.int .i64 x,.int .i64 y] 62)) base (.slice (some ⟨w.heap.size,0,none⟩) 1 1) [(x,y)] :=
 ⟨by simp[yP],.inr ⟨w.heap.size,1,_,rfl,hb,heap_alloc_new w _,Nat.le_refl _,by decide,rfl,by simp[yP]⟩⟩
theorem lZ{w:World}{p:Int}{a:j6}{cap:Nat}(h:Ints w a n cap V):
 Calls Tryz.prog 21 #[pair p a n cap] w fun e w'=>fh w' w.heap.size e (zr p V)/\Ext w w':=by
 obtain⟨W,hW⟩:=b9 ((w.alloc (.cells #[.int .i64 p,.slice a n cap] 32)).alloc (.cells #[.bool false,.slice none 0 0,.slice none 0 0,.int .i64 0] 44));have WI:W.heap.size=w.heap.size+2:=by rw[hW];simp
 have hX:Ext w W:=by rw[hW];exact(Ext.alloc _ _).trans (Ext.alloc _ _)
 have wi:=ae (show W.heap[w.heap.size+1]?=some (.cells #[.bool false,.slice none 0 0,.slice none 0 0,.int .i64 0] 44 (0,0))by rw[hW];exact aj _ _ _ e8);have Bh:=ae (show W.cell? ⟨w.heap.size,0,none⟩=some (.int .i64 p)by rw[hW];exact Ext.j9 (Ext.alloc _ _) e8);have Ee:=ae (show W.cell? ⟨w.heap.size,1,none⟩=some (.slice a n cap)by rw[hW];exact Ext.j9 (Ext.alloc _ _) e8);have HI:=ae (h.ext hX);have HX:=ae hX;have xJ:=ae h.hlen;have hcapn:=h.l8;have OK:=h.o0;have xD:=ae (fun(w':World) (hx:Ext W w') (v0 v1 v2 v3:Value)=>yC (Mx ((hx.block _ e7).trans wi.o) v0 v1 v2 v3).1);have El:=ae (fun(w':World) (hx:Ext W w') (v0 v1 v2 v3:Value)=>Oi (w:=w) (r:=w.heap.size+1) (HX.o.trans hx) (Nat.le_succ _) v0 v1 v2 v3);have Lq:=ae (fun(w':World) (hx:Ext W w') (v0 v1 v2 v3:Value)=>(Mx ((hx.block (w.heap.size+1) e7).trans wi.o) v0 v1 v2 v3).2);have CM:=ae (fun(w':World) (hx:Ext W w')=>yC ((hx.block _ e7).trans wi.o));obtain⟨B,hB⟩:=b9 (w.heap.size+2);obtain⟨w1,DG⟩:=b9 (W.alloc (.cells #[.bool true,.slice none 0 0,.slice none 0 0,.int .i64 0] 44));have X1:=ae (show Ext W w1 by rw[DG];exact Ext.alloc _ _)
 have vw:=ae (show wB W w1 B (.slice none 0 0) (.slice none 0 0) (.slice none 0 0) [] [] [] 0 from
  ⟨by rw[DG];exact aj _ _ _ e7,l9.nil _ _,uT.nil _ _ _ _,World.ownsRow_nil _ _ _ _,X1.o,by omega⟩)
 have N0:=ae (dU (p:=p) (HI.o.ext X1.o));obtain⟨gb,Fa⟩:=b9 (aH p V);rw[<-Fa]at N0;have wL:=ae Fa;have GX:=ae hB;have Ql:W.heap.size<=B:=by omega
 obtain⟨o,ho⟩:=b9 (zr p V);rw[<-ho];have HOO:=ae ho;clear h hX Fa ho;go_enter Tryz.func21,Tryz.ntmps21
 go_upto_region 2 with fail;rw[<-hW,<-DG,show w.heap.size+1+1=B from hB.symm];clear hW DG hB
 go_cut [17] (fun s17 wx=>s17=.bool (gb&&p == 1)/\b7 (Ext w1 wx))
 case first =>
  have c0:=X1.o.j9 Bh.o;have c1:=X1.o.j9 Ee.o;cases gb
  ·go_wp2_with fail;refine N0.o.mono ?_;rintro e wx ⟨rfl,hx⟩;have Av:=ae hx;clear hx;go_wp2_with fail;go_meet;exact⟨rfl,Av⟩
  ·go_wp2_with fail;refine N0.o.mono ?_;rintro e wx ⟨rfl,hx⟩;have Av:=ae hx;have c0:=hx.j9 c0;have c1:=hx.j9 c1;clear hx;go_wp2_with fail;go_meet;exact⟨rfl,Av⟩
 obtain⟨rfl,Bz⟩:=hcut;have BK:=ae (vw.o.grow Bz.o);obtain⟨bb,xS⟩:=b9 ((gb&&p == 1));rw[<-xS];have AF:=ae xS;clear xS;generalize wc=w2 at BK Bz⊢;cases bb
 ·have HN:=ae (show Ay p V ((wM V []).length+1) [] 0=o by rw[HOO.o];exact uj (by rw[<-wL.o];exact AF.o.symm));go_wp2_with fail
  go_loopg [] ((wM V []).length+1) (fun gk wr=>∃(k:Nat) (L:j2) (pt:j4) (vp vs:Value),b7 (gk+k=(wM V []).length+1)/\b7 (wB W wr B vp vs (.slice none 0 0) pt L [] k)/\b7 ((wM V L).length+1<=gk)/\b7 (∀f∈L,f.1<=1000)/\b7 (L.length<=32*k)/\b7 (k<=40)/\b7 (Ay p V gk L k=o))
  case atStart=>exact⟨0,[],[],_,_,ae e7,BK,ae (Nat.le_refl _),ae (fun f hf=>by cases hf),ae e8,ae e7,HN⟩
  case round =>
   obtain⟨g1,o6⟩:=b9 gk;subst o6;obtain⟨o8,o4⟩:=b9 wr;subst o4;obtain⟨k,L,pt,vp,vs,HK,HO,L5,xi,xg,xX,Gl⟩:=hrel;obtain⟨aS,nS,cS,rfl,Rd⟩:=HO.o.st.var;have hk40:=xX.o;have hnS:nS<=1300:=by rw[<-Rd.o];have:=xg.o;omega
   obtain⟨b0,b1,O,J,bf⟩:=yC HO.o.box;have e0:=HO.o.ext.j9 Bh.o;have e1:=HO.o.ext.j9 Ee.o;have D':=ae (uC (p:=p) (HI.o.ext HO.o.ext) HO.o.st.Fh e7);obtain⟨ok,wj⟩:=b9 (wu p V L);rw[<-wj]at D';have xN:=ae wj;clear wj;go_wp2_with fail;refine D'.o.mono ?_;rintro e w4 ⟨Ha,vW⟩;obtain⟨la,C9,Dc,lb,C8,Db,lc,C7,Da,rfl,Hd⟩:=Ha.lpc;unfold Al;obtain⟨w5,DE⟩:=b9 (w4.alloc (aV la C9 Dc lb C8 Db lc C7 Da));have wX:Ext w4 w5:=by rw[DE];exact Ext.alloc _ _
   have K5:=ae (vW.trans wX);have X5:=ae (HO.o.ext.trans K5.o);have Gh:=nZ (Hd.ext wX);obtain⟨r,hr⟩:=b9 (ev (C5 p V L) (C4 p V L) (C3 p V L));rw[<-hr]at Gh;have CJ:=ae Gh;have FB:=ae hr;have t0:=al (show w5.heap[w4.heap.size]?=some (.cells #[.slice la C9 Dc,.slice lb C8 Db,.slice lc C7 Da] 68 (0,0))by rw[DE];exact aj _ _ _ rfl);have t1:=au (show w5.heap[w4.heap.size]?=some (.cells #[.slice la C9 Dc,.slice lb C8 Db,.slice lc C7 Da] 68 (0,0))by rw[DE];exact aj _ _ _ rfl);have t2:=av (show w5.heap[w4.heap.size]?=some (.cells #[.slice la C9 Dc,.slice lb C8 Db,.slice lc C7 Da] 68 (0,0))by rw[DE];exact aj _ _ _ rfl);have CL:=ae K5.o.size;go_upto_region 6 with fail;rw[<-DE];clear Gh hr DE wX vW Hd Ha b0 b1 O J bf e0 e1;go_wp2_with fail;refine CJ.o.mono ?_;rintro e w6 ⟨⟨xa,xn,xc,ya,yn,yc,ra,rn,rc,rfl,AW⟩,FT⟩;obtain⟨w7,Am⟩:=b9 (w6.alloc (bH r xa xn xc ya yn yc ra rn rc));have Il:Ext w6 w7:=by rw[Am];exact Ext.alloc _ _
   have K7:=ae ((K5.o.trans FT).trans Il);have X7:=ae (HO.o.ext.trans K7.o);have xE:=ae ((AW.ext Il).mono CL.o);have BE:=ae (show w7.heap[w6.heap.size]?=some (bH r xa xn xc ya yn yc ra rn rc)by rw[Am];exact aj _ _ _ rfl);have GV:=ae (show o8.heap.size<=w6.heap.size by have h1:=FT.size;have h2:=CL.o;omega);obtain⟨q,hq⟩:=b9 p.toNat
   have zE:=ae (fun(h:ok=true)=>show r=bQ q V L by
    have wj:=xN.o.symm.trans h;obtain⟨E1,E2,E3⟩:=mN wj;rw[FB.o,E1,E2,E3,hq]
    exact(Jm wj).symm)
   have HQ:=ae hq;obtain⟨rs,rX,I,rr,⟨Q,U⟩,rp⟩:=r;unfold zg;go_upto_region 7 with fail;rw[<-Am];clear AW FT Il Am t0 t1 t2 hq FB;generalize w6.heap.size=G at BE GV⊢;have Hl:=lt_of_block BE.o;obtain⟨l0,l1,l2,l3,l4,l5,l6,lf⟩:=vH BE.o
   try simp only at l0 l1 l2 l3 l4 l5 l6
   by_cases hgo:ok=true/\rs=1
   ·obtain⟨rfl,rfl⟩:=hgo;obtain⟨Ye,PU,_,_⟩:=gu xN.o.symm;obtain⟨_,QC,vK,Ao,CU,_⟩:=gF Ye;have Bg:=ae (zE.o rfl);have VU:=ae (nG xN.o.symm (by rw[<-HQ.o,<-Bg.o]));have V7:=ae (lP xN.o.symm (by rw[<-HQ.o,<-Bg.o]));have Lf:=ae (fun f=>ui (f:=f) (k:=k) xN.o.symm (by rw[<-HQ.o,<-Bg.o]));rw[<-HQ.o,<-Bg.o]at VU V7 Lf;rw[<-HQ.o]at vK Ao CU;have HGM:=ae Ye;have wI:=ae vK;have BS:n<=32:=by rw[<-xJ.o];exact QC
    have An:2<=q:=by omega
    clear Ye QC vK;obtain⟨Ik,EN,Bu,DD⟩:=VU.o
    try simp only at Ik EN Bu DD
    have xK:=aL Bu
    try simp only at xK
    have QR:=ae Ik;have Du:=ae EN;have QQ:=ae DD;have A5:q+1=yn:=by have h1:=xE.o.y.here.hlen;have h2:=Du.o;(try simp only at h1);omega
    have HQ2:=ae An;clear Ik EN Bu DD PU;have Fj:=ae (HO.o.grow K7.o);have Cd:=ae HO.o.lt;have Gj:=ae (yg.refl o8.heap.size w7);obtain⟨b0,b1,O,J,bf⟩:=yC Fj.o.box;obtain⟨k1,yx⟩:∃x:Int,x=(k:Int)+1:=⟨_,rfl⟩;have WJ:IntKind.i64.wrap ((k:Int)+1)=k1:=by rw[IntKind.wrap_i64];omega
    have U4:=ae (show k1=((k+1:Nat):Int)by omega);clear yx;obtain⟨w8,FV⟩:=b9 (w7.setCell ⟨B,3,none⟩ (.int .i64 k1));have FD:=ae (Fj.o.Sl (k':=k+1) U4.o);have Ht:=ae (Gj.o.set (j:=3) Cd.o (.int .i64 k1));rw[<-FV]at FD Ht;go_upto_region 10 with fail;rw[<-FV];clear FV b0 b1 O J bf WJ;obtain⟨b0,b1,O,J,bf⟩:=yC FD.o.box;obtain⟨w9,Oq⟩:=b9 (w8.setCell ⟨B,1,none⟩ (.slice none 0 0));have Dz:=ae (FD.o.Pp (l9.nil _ _));have Gi:=ae (Ht.o.set (j:=1) Cd.o (.slice none 0 0));rw[<-Oq]at Dz Gi;go_upto_region 11 with fail;rw[<-Oq];clear Oq b0 b1 O J bf l0 l1 l2 l3 l4 l5 l6 lf;have Ih:=ae (Gi.o.blk GV.o BE.o);have ZW:=ae (Gi.o.on xE.o.x);have UZ:=ae (Gi.o.on xE.o.y);go_wp2_with fail
    go_loopg [7] q (fun gk ii wr=>∃(j:Nat) (IK:Value),b7 (gk+j=q)/\ii=.int .i64 (j:Int)/\b7 (wB W wr B IK (.slice aS nS cS) (.slice none 0 0) ((I.take j).map uU) L [] (k+1))/\b7 (yg o8.heap.size w9 wr)/\b7 (Off o8.heap.size w9.heap.size IK))
    case atStart=>exact⟨0,_,ae e7,rfl,Dz,ae (yg.refl _ _),ae (Off.nil _ _ _ _)⟩
    case round =>
     obtain⟨g2,wv⟩:=b9 gk;subst wv;obtain⟨wr2,vo⟩:=b9 wr;subst vo;obtain⟨j,vp2,HJ,rfl,wG,yX,Hx⟩:=hrel;obtain⟨OY,Ok,OV,rfl,HNP2⟩:=wG.o.pt.var;have c0:=wG.o.ext.j9 Bh.o;by_cases hjq:j<q
     ·have RM:j<yn:=by omega
      have hjp:(j:Int)<p:=by have:=wI.o;omega
      obtain⟨yb,vB,y1,y2,Ry,Rx,SB,SA⟩:=(yX.o.on UZ.o).here.at RM;subst Ry
      try simp only at Rx
      obtain⟨l0,l1,l2,l3,l4,l5,l6,lf⟩:=vH (yX.o.blk GV.o Ih.o)
      try simp only at l0 l1 l2 l3 l4 l5 l6
      obtain⟨b0,b1,O,J,bf⟩:=yC wG.o.box
      have xZ:=ae (show((I.take j).map uU)++[(-y1,y2)]=(I.take (j+1)).map uU by
       have yW:j<I.length:=by have:=Du.o;omega
       rw[List.take_succ_eq_append_getElem yW,List.map_append,List.map_singleton];rw[List.getElem?_eq_getElem yW,Option.getD_some]at Rx
       rw[Rx];rfl)
      have Dd:-9223372036854775807<=y1/\y1<=9223372036854775807:=by
       have:=aL (QQ.o j (j1 Du.o));rw[Rx]at this;simp only at this;omega
      have Lg:=ae (show((I.take j).map uU).length<=100 by rw[List.length_map,List.length_take];omega);have Ig:=ae wG.o.lt;have HYJ:=ae Rx;clear Rx;go_wp2_with fail;have E:Ext wr2 wr2.drew:=Ext.drew wr2;have k8:=ae (fun(w':World) (h:Ext wr2 w')=>(⟨h.j9 b1,h.j9 l2,h.j9 SB,h.j9 SA⟩:w'.cell? ⟨B,1,none⟩=some (.slice OY Ok OV)/\w'.cell? ⟨G,2,none⟩=some (.slice (some ⟨yb,vB,none⟩) yn yc)/\w'.cell? ⟨yb,vB+j*2,none⟩=some (.int .i64 y1)/\w'.cell? ⟨yb,vB+j*2+1,none⟩=some (.int .i64 y2)));refine dr (M:=[11]) (S:=fun w'=>w'.cell? ⟨B,1,none⟩=some (.slice OY Ok OV)/\w'.cell? ⟨G,2,none⟩=some (.slice (some ⟨yb,vB,none⟩) yn yc)/\w'.cell? ⟨yb,vB+j*2,none⟩=some (.int .i64 y1)/\w'.cell? ⟨yb,vB+j*2+1,none⟩=some (.int .i64 y2)) e9 ?_;have k9:=k8.o _ E;obtain⟨wd,hwd⟩:=b9 wr2.drew;rw[<-hwd]at E k9;rw[<-hwd];clear hwd;refine lp 0 ?_;refine ll 1 ?_;refine lp 2 ?_;refine ll 3 ?_;refine lp 4 ?_;refine lp 5 ?_;refine ll 6 ?_;refine aW (i:=7) (oi:=?_) ?_ ?_ ?_ (fun K hK=>?_);rotate_left
      ·simp only[gA,gB,gC];rfl
      ·kernel_rfl
      ·kernel_rfl
      go_simp;go_at_call 51;refine(eB y1 y2 _ e7 e7).mono ?_;rintro e Bp ⟨rfl,yH⟩;have E:Ext wr2 Bp:=E.trans yH;have J0:=E.size;go_wp2_with fail;refine hK.out _ _ (fun _=>k8.o _ E) ?_;have k9:=k8.o _ E;clear hK K
      try simp only[Act.put,sA,sB,sC]
      refine aW (i:=8) (oi:=?_) ?_ ?_ ?_ (fun K hK=>?_);rotate_left
      ·simp only[gA,gB,gC];rfl
      ·kernel_rfl
      ·kernel_rfl
      go_simp;refine hK.out _ _ (fun _=>k8.o _ (E.trans (Ext.alloc _ _))) ?_;clear hK K
      try simp only[Act.put,sA,sB,sC]
      refine aW (i:=9) (oi:=?_) ?_ ?_ ?_ (fun K hK=>?_);rotate_left
      ·simp only[gA,gB,gC];rfl
      ·kernel_rfl
      ·kernel_rfl
      refine cU _ _ j0 (B+1) (.slice OY Ok OV) _ j0 (wG.o.pt.ext (E.trans (Ext.alloc _ _))) _ 1 _ [(-y1,y2)] j0 (Rats.one' _ _ _ _ _ e8) (j1 Lg.o) (by have h2:=Ig.o;simp;omega) ?_;intro v13 Ij ho hg l7;have Lz:=ae ((hg.block B (by have h2:=Ig.o;simp;omega) (fun e=>by have:=(wG.o.pt.lt B e.symm).1;omega)).trans ((E.trans (Ext.alloc _ _)).blk wG.o.box));have Dv:=ae ((yX.o.ext (E.trans (Ext.alloc _ _))).grown hg Hx.o);have H4:=ae (Hx.o.near l7 (by have h1:=yX.o.size;simp;omega));obtain⟨LO,n13,c13,rfl,O6⟩:=ho.var;have zy:=ae (wG.o.TV (E.trans (Ext.alloc _ _)) hg ho);obtain⟨c0,c1,c2,c3,cf⟩:=yC Lz.o;obtain⟨m0,m1,m2,m3,m4,m5,m6,mf⟩:=vH (Dv.o.blk GV.o Ih.o)
      (try simp only at m0 m1 m2 m3 m4 m5 m6)
      obtain⟨yb',Sh,y1',y2',Sy,Sw,PA,Pz⟩:=(Dv.o.on UZ.o).here.at RM;simp only[Option.some.injEq,Addr.mk.injEq,and_true]at Sy;obtain⟨rfl,rfl⟩:=Sy;have SC:=HYJ.o.symm.trans Sw;simp only[Prod.mk.injEq]at SC;obtain⟨rfl,rfl⟩:=SC;clear ho hg l7 Sw;refine hK.out _ _ (fun _=>And.intro c1 (And.intro m2 (And.intro PA Pz))) ?_;have k9:=And.intro c1 (And.intro m2 (And.intro PA Pz));clear hK K
      try simp only[Act.put,sA,sB,sC]
      refine lp 10 ?_;refine dH (i:=11) (oi:=?_) (w':=?_) ?_ ?_ ?_ ?_ ?_ ?_ ?_;rotate_left 2
      ·simp only[gA,gB,gC];rfl
      ·kernel_rfl
      ·kernel_rfl
      ·exact of_decide_eq_true e9
      ·rfl
      ·go_simp;(try with_reducible rfl)
      try simp only[Act.put,sA,sB,sC]
      refine dM e9 ?_ _;rw[xZ.o]at zy;obtain⟨Pl,Co⟩:=b9 (Ij.setCell ⟨B,1,none⟩ (.slice LO n13 c13));have Ea:=ae (Dv.o.set (j:=1) Cd.o (.slice LO n13 c13));rw[<-Co]at zy Ea;go_upto_region 13 with fail;rw[<-Co];clear Co c0 c1 c2 c3 cf m0 m1 m2 m3 m4 m5 m6 mf b0 b1 O J bf l0 l1 l2 l3 l4 l5 l6 lf PA Pz SB SA k9 E k8;go_wp2_with fail
      go_roundg (g2-1)
      case measure=>have:=HJ.o;omega
      case rel=>exact⟨j+1,_,ae (j1 HJ.o),by go_num,zy,Ea,H4⟩
     ·have Tp:j=q:=by have:=HJ.o;omega
      have hjp:¬(j:Int)<p:=by have:=wI.o;omega
      rw[Tp]at wG;have HS2':=ae yX.o;obtain⟨b0,b1,O,J,bf⟩:=yC wG.o.box;have e1:=wG.o.ext.j9 Ee.o;have Fp:=ae (jB p a n cap e7 wG.o.st.Fh);clear Tp;go_wp2_with fail;refine Fp.o.mono ?_;rintro e DB ⟨⟨v,rfl,ho⟩,Df⟩;obtain⟨Zd,m,c11,rfl,HM⟩:=ho.var;have Hz:=ae (wG.o.grow Df);have Dw:=ae (yX.o.ext Df);have HS911:=ae (show w9.heap.size<=DB.heap.size from Dw.o.size);have Lo:=ae (show aN L (n-2)=wM V L by unfold wM;rw[xJ.o]);rw[Lo.o]at ho HM;have N5:=ae (ho.mono (show o8.heap.size<=wr2.heap.size by have h1:=yX.o.size;have h2:=Gi.o.size;have h3:=K7.o.size;omega));have Lk:=ae (Dw.o.on ZW.o);have En:=ae (Dw.o.blk GV.o Ih.o);have Ra:=ae (Off.of (hi:=DB.heap.size) HO.o.st.lt (Nat.le_refl _));have hmx:m<=xn:=by have h1:=Lk.o.here.hlen;have h2:=QR.o;have h3:=HM.o;(try simp only at h1);omega
      have PZ:m<=32:=by
       have h1:(wM V L).length<=V.length-2:=dA L (V.length-2);have h2:=xJ.o;have h3:=HM.o;omega
      have Q8:=ae (show(L++xq (wM V L) ⟨1,rX,I,rr,(Q,U),rp⟩ 0)=L by rw[nD,List.append_nil]);clear ho Df b0 b1 O J bf e1 c0 hjp hjq;go_wp2_with fail
      go_loopg [9] m (fun gk ii wr=>∃(j:Nat) (vs':Value),b7 (gk+j=m)/\ii=.int .i64 (j:Int)/\b7 (wB W wr B (.slice OY Ok OV) vs' (.slice none 0 0) ((I.take q).map uU) (L++xq (wM V L) ⟨1,rX,I,rr,(Q,U),rp⟩ j) [] (k+1))/\b7 (yg o8.heap.size DB wr)/\b7 (Off o8.heap.size DB.heap.size vs'))
      case atStart=>exact⟨0,_,ae e7,rfl,ae (by rw[Q8.o];exact Hz.o),ae (yg.refl _ _),Ra⟩
      case round =>
       obtain⟨g3,AT⟩:=b9 gk;subst AT;obtain⟨wr3,yE⟩:=b9 wr;subst yE;obtain⟨Z,vs3,U5,rfl,vi,zR,Q9⟩:=hrel;obtain⟨QK,Oj,QH,rfl,ZJ⟩:=vi.o.st.var;by_cases Cw:Z<m
       ·have XV:Z<xn:=by omega
        obtain⟨fb,CE,Ng,Qb⟩:=(zR.o.ints (Nat.le_refl _) N5.o).ints.at Cw;subst Ng;obtain⟨xb,II,x1,x2,MK,PC,WC,WB⟩:=(zR.o.on Lk.o).here.at XV;subst MK;obtain⟨l0,l1,l2,l3,l4,l5,l6,lf⟩:=vH (zR.o.blk GV.o En.o)
        try simp only at l0 l1 l2 l3 l4 l5 l6 PC
        obtain⟨s,hs⟩:=b9 ((wM V L)[Z]?.getD 0);rw[<-hs]at Qb;by_cases uS:0<x1
        ·have IA:=ae (show(L++xq (wM V L) ⟨1,rX,I,rr,(Q,U),rp⟩ Z)++[(s,-Q,U)]=L++xq (wM V L) ⟨1,rX,I,rr,(Q,U),rp⟩ (Z+1)by
          rw[io,if_pos (by show 0<(rX[Z]?.getD (0,0)).1;rw[PC];exact uS),<-hs,List.append_assoc])
         obtain⟨b0,b1,O,J,bf⟩:=yC vi.o.box
         have Lg:=ae (show(L++xq (wM V L) ⟨1,rX,I,rr,(Q,U),rp⟩ Z).length<=2000 by
          rw[List.length_append];have h1:=iT (wM V L) ⟨1,rX,I,rr,(Q,U),rp⟩ Z;have h2:=xg.o
          omega)
         have Ig:=ae vi.o.lt;have R8:=ae hs;clear hs;go_wp2_with fail;have E:Ext wr3 wr3.drew:=Ext.drew wr3;have k8:=ae (fun(w':World) (h:Ext wr3 w')=>(⟨h.j9 O,h.j9 l4,h.j9 l5,h.j9 Qb⟩:w'.cell? ⟨B,2,none⟩=some (.slice QK Oj QH)/\w'.cell? ⟨G,4,none⟩=some (.int .i64 Q)/\w'.cell? ⟨G,5,none⟩=some (.int .i64 U)/\w'.cell? ⟨fb,CE+Z,none⟩=some (.int .i64 s)));refine dr (M:=[13]) (S:=fun w'=>w'.cell? ⟨B,2,none⟩=some (.slice QK Oj QH)/\w'.cell? ⟨G,4,none⟩=some (.int .i64 Q)/\w'.cell? ⟨G,5,none⟩=some (.int .i64 U)/\w'.cell? ⟨fb,CE+Z,none⟩=some (.int .i64 s)) e9 ?_;have k9:=k8.o _ E;obtain⟨wd,hwd⟩:=b9 wr3.drew;rw[<-hwd]at E k9;rw[<-hwd];clear hwd;refine lp 0 ?_;refine ll 1 ?_;refine lp 2 ?_;refine lp 3 ?_;refine lp 4 ?_;refine ll 5 ?_;refine lp 6 ?_;refine ll 7 ?_;refine aW (i:=8) (oi:=?_) ?_ ?_ ?_ (fun K hK=>?_);rotate_left
         ·simp only[gA,gB,gC];rfl
         ·kernel_rfl
         ·kernel_rfl
         go_simp;go_at_call 51;refine(eB Q U _ e7 e7).mono ?_;rintro e Bp ⟨rfl,yH⟩;have E:Ext wr3 Bp:=E.trans yH;have J0:=E.size;go_wp2_with fail;refine hK.out _ _ (fun _=>k8.o _ E) ?_;have k9:=k8.o _ E;clear hK K
         try simp only[Act.put,sA,sB,sC]
         refine lp 9 ?_;refine aW (i:=10) (oi:=?_) ?_ ?_ ?_ (fun K hK=>?_);rotate_left
         ·simp only[gA,gB,gC];rfl
         ·kernel_rfl
         ·kernel_rfl
         go_simp;refine hK.out _ _ (fun _=>k8.o _ (E.trans (Ext.alloc _ _))) ?_;clear hK K
         try simp only[Act.put,sA,sB,sC]
         refine aW (i:=11) (oi:=?_) ?_ ?_ ?_ (fun K hK=>?_);rotate_left
         ·simp only[gA,gB,gC];rfl
         ·kernel_rfl
         ·kernel_rfl
         refine eX yr Tryz.B7 rfl Tryz.underlying42 (by decide) _ _ j0 (B+1) (.slice QK Oj QH) _ j0 (vi.o.st.ext (E.trans (Ext.alloc _ _))) _ 1 1 [(s,-Q,U)] j0 (yM.lit yr _ _ _ 1 j0 _ j0 _ j0 e7) (j1 Lg.o) (by have h2:=Ig.o;simp;omega) ?_;intro v13 Ij ho hg l7;have Lz:=ae ((hg.block B (by have h2:=Ig.o;simp;omega) (fun e=>by have:=(vi.o.st.lt B e.symm).1;omega)).trans ((E.trans (Ext.alloc _ _)).blk vi.o.box));have Dv:=ae ((zR.o.ext (E.trans (Ext.alloc _ _))).grown hg Q9.o);have H4:=ae (Q9.o.near l7 (by have h1:=zR.o.size;simp;omega));obtain⟨LO,n13,c13,rfl,O6⟩:=ho.var;have zy:=ae (vi.o.OU (E.trans (Ext.alloc _ _)) hg ho);obtain⟨c0,c1,c2,c3,cf⟩:=yC Lz.o;obtain⟨m0,m1,m2,m3,m4,m5,m6,mf⟩:=vH (Dv.o.blk GV.o En.o)
         (try simp only at m0 m1 m2 m3 m4 m5 m6)
         obtain⟨fb',foff',Tx,Nh⟩:=(Dv.o.ints (Nat.le_refl _) N5.o).ints.at Cw;simp only[Option.some.injEq,Addr.mk.injEq,and_true]at Tx;obtain⟨rfl,rfl⟩:=Tx;rw[<-R8.o]at Nh;clear ho hg l7;refine hK.out _ _ (fun _=>And.intro c2 (And.intro m4 (And.intro m5 Nh))) ?_;have k9:=And.intro c2 (And.intro m4 (And.intro m5 Nh));clear hK K
         try simp only[Act.put,sA,sB,sC]
         refine lp 12 ?_;refine dH (i:=13) (oi:=?_) (w':=?_) ?_ ?_ ?_ ?_ ?_ ?_ ?_;rotate_left 2
         ·simp only[gA,gB,gC];rfl
         ·kernel_rfl
         ·kernel_rfl
         ·exact of_decide_eq_true e9
         ·rfl
         ·go_simp;(try with_reducible rfl)
         try simp only[Act.put,sA,sB,sC]
         refine dM e9 ?_ _;rw[IA.o]at zy;obtain⟨Pl,Co⟩:=b9 (Ij.setCell ⟨B,2,none⟩ (.slice LO n13 c13));have Ea:=ae (Dv.o.set (j:=2) Cd.o (.slice LO n13 c13));rw[<-Co]at zy Ea;go_upto_region 18 with fail;rw[<-Co];clear Co c0 c1 c2 c3 cf m0 m1 m2 m3 m4 m5 m6 mf b0 b1 O J bf l0 l1 l2 l3 l4 l5 l6 lf k9 E k8 Qb Nh;go_wp2_with fail
         go_roundg (g3-1)
         case measure=>have:=U5.o;omega
         case rel=>exact⟨Z+1,_,ae (j1 U5.o),by go_num,zy,Ea,H4⟩
        ·have IA:=ae (show(L++xq (wM V L) ⟨1,rX,I,rr,(Q,U),rp⟩ Z)=L++xq (wM V L) ⟨1,rX,I,rr,(Q,U),rp⟩ (Z+1)by
          rw[io,if_neg (by show¬0<(rX[Z]?.getD (0,0)).1;rw[PC];exact uS),List.append_nil])
         clear hs;go_wp2_with fail
         go_roundg (g3-1)
         case measure=>have:=U5.o;omega
         case rel=>exact⟨Z+1,_,ae (j1 U5.o),by go_num,ae (by rw[<-IA.o];exact vi.o),zR,Q9⟩
       ·have Cv:Z=m:=by have:=U5.o;omega
        have HE:=ae (show L++xq (wM V L) ⟨1,rX,I,rr,(Q,U),rp⟩ Z=de V L ⟨1,rX,I,rr,(Q,U),rp⟩by unfold de;rw[HM.o,Cv]);rw[HE.o]at vi;clear Cv;obtain⟨N,hN⟩:=b9 (de V L ⟨1,rX,I,rr,(Q,U),rp⟩);have Ce:=ae (ry (V:=V) (L:=L) (r:=⟨1,rX,I,rr,(Q,U),rp⟩) (k:=k) (by rw[xJ.o];exact BS) xi.o xg.o);have Fk:=ae (Lf.o (g1-1));have Gq:=ae (show g1-1+1=g1 by have:=L5.o;omega);rw[Gq.o,Gl.o]at Fk;have Vc:=ae V7.o;rw[<-hN]at vi Ce Fk Vc;clear hN;have hnS3:Oj<=100000:=by have h1:=ZJ.o;have h2:=Ce.o.2;have h3:=vi.o.st.Fh.hlen;omega
        have Rh:=ae (uD (p:=p) (a:=a) (cap:=cap) xJ.o e7 vi.o.st.Fh e7 Ce.o.1);obtain⟨d,hd⟩:=b9 (dX p V N);rw[<-hd]at Rh Fk;obtain⟨b0,b1,O,J,bf⟩:=yC vi.o.box;have e0:=vi.o.ext.j9 Bh.o;have e1:=vi.o.ext.j9 Ee.o;clear hd;go_wp2_with fail;refine Rh.o.mono ?_;rintro e zU ⟨rfl,JK⟩;have BC:=ae (vi.o.grow JK);clear b0 b1 O J bf e0 e1 JK;cases d
        ·have HR:=ae (show Ay p V (g1-1) N (k+1)=o from Fk.o.symm);go_wp2_with fail
         go_roundg (g1-1)
         case measure=>have:=L5.o;omega
         case rel=>exact⟨k+1,N,_,_,_,ae (by have h1:=HK.o;have h2:=L5.o;omega),BC,ae (by have h1:=Vc.o;have h2:=L5.o;omega),ae Ce.o.1,ae Ce.o.2,ae (by have h1:=HK.o;have h2:=L5.o;have h3:(wM V []).length<=V.length-2:=dA [] (V.length-2);have h4:=xJ.o;omega),HR⟩
        ·have HR:=ae (show o=⟨true,(I.take q).map uU,N,k+1⟩from Fk.o);obtain⟨b0,b1,O,J,bf⟩:=yC BC.o.box;have R3:=ae BC.o.ext;obtain⟨q0,q1,q2,q3,qf⟩:=CM.o zU R3.o;obtain⟨kk,Dl⟩:∃x:Int,x=((k+1:Nat):Int):=⟨_,rfl⟩;rw[<-Dl]at J;have H8:=ae Dl;clear Dl;obtain⟨z0,z1,z2,z3,_⟩:=xD.o zU R3.o (.bool true) (.slice OY Ok OV) (.slice QK Oj QH) (.int .i64 kk);have HZ:=ae (El.o zU R3.o (.bool true) (.slice OY Ok OV) (.slice QK Oj QH) (.int .i64 kk));have C0:=ae (Lq.o zU R3.o (.bool true) (.slice OY Ok OV) (.slice QK Oj QH) (.int .i64 kk));have Lb:=ae ((BC.o.pt.keep (fun j hj=>C0.o j (j1 ((BC.o.pt.lt j hj).1)))).mono (show w.heap.size<=B+1 by omega));have xh:=ae ((BC.o.st.keep (fun j hj=>C0.o j (j1 ((BC.o.st.lt j hj).1)))).mono (show w.heap.size<=B+1 by omega));go_wp2_with fail;refine bodyPost_ret (v:=.agg #[.bool true,.slice OY Ok OV,.slice QK Oj QH,.int .i64 kk]) (by simp[results,Tryz.results21,go_sem,z0,z1,z2,z3]) rfl ⟨by rw[HR.o];exact⟨_,_,_,_,_,_,by rw[H8.o],Lb.o,xh.o⟩,HZ.o⟩
   ·have B2:=ae (show o=AE.no by
     rw[<-Gl.o];refine mH (fun h=>hgo ?_);rw[<-xN.o,<-HQ.o]at h;refine⟨h.1,?_⟩;have h2:=h.2;rw[<-zE.o h.1]at h2
     exact h2)
    obtain⟨q0,q1,q2,q3,qf⟩:=CM.o w7 X7.o;obtain⟨z0,z1,z2,z3,_⟩:=xD.o w7 X7.o (.bool false) (.slice none 0 0) (.slice none 0 0) (.int .i64 0);have HZ:=ae (El.o w7 X7.o (.bool false) (.slice none 0 0) (.slice none 0 0) (.int .i64 0));cases ok
    ·go_wp2_with fail;refine bodyPost_ret (v:=.agg #[.bool false,.slice none 0 0,.slice none 0 0,.int .i64 0]) (by simp[results,Tryz.results21,go_sem,z0,z1,z2,z3]) rfl ⟨by rw[B2.o];exact fh.no _ _,HZ.o⟩
    ·have G8:(rs != 1)=true:=by
      have:rs≠1:=fun h=>hgo ⟨rfl,h⟩
      simp[this]
     go_wp2_with fail;refine bodyPost_ret (v:=.agg #[.bool false,.slice none 0 0,.slice none 0 0,.int .i64 0]) (by simp[results,Tryz.results21,go_sem,z0,z1,z2,z3]) rfl ⟨by rw[B2.o];exact fh.no _ _,HZ.o⟩
 ·have Dk:p=1:=by
   have:=AF.o;cases gb
   ·cases this
   ·simpa using this.symm
  have Cx:aH p V=true:=by
   have:=AF.o;rw[<-wL.o];cases gb
   ·cases this
   ·rfl
  have HOV:=ae (show o=⟨true,[(bI p V,1)],[],0⟩by rw[HOO.o];unfold zr;rw[if_pos Cx,if_pos Dk]);have CQ:=ae (jz (p:=p) (HI.o.ext BK.o.ext));obtain⟨g,hg⟩:=b9 (bI p V);rw[<-hg]at CQ HOV;have c0:=BK.o.ext.j9 Bh.o;have c1:=BK.o.ext.j9 Ee.o;clear Dk Cx hg;go_wp2_with fail;refine CQ.o.mono ?_;rintro e w3 ⟨rfl,vj⟩;go_wp2_with fail;refine(cl g _).mono ?_;rintro e w4 ⟨rfl,vW⟩;have wX:Ext w2 (w4.alloc (.cells #[.int .i64 g,.int .i64 1] 62)):=(vj.trans vW).trans (Ext.alloc _ _);have vU:=ae (BK.o.grow wX);have LY:=ae (l9.Ss w4 (B+1) g 1 (by have h1:=BK.o.lt;have h2:=(vj.trans vW).size;omega));have yT:=ae (vU.o.Pp LY.o);obtain⟨b0,b1,O,J,bf⟩:=yC vU.o.box;obtain⟨w6,Cn⟩:=b9 ((w4.alloc (.cells #[.int .i64 g,.int .i64 1] 62)).setCell ⟨B,1,none⟩ (.slice (some ⟨w4.heap.size,0,none⟩) 1 1));rw[<-Cn]at yT;clear vj vW wX c0 c1;go_upto_region 4 with fail;rw[<-Cn];generalize w4.heap.size=G at yT⊢;clear Cn b0 b1 O J bf;obtain⟨b0,b1,O,J,bf⟩:=yC yT.o.box;have X6:=ae yT.o.ext;obtain⟨q0,q1,q2,q3,qf⟩:=CM.o w6 X6.o;obtain⟨z0,z1,z2,z3,_⟩:=xD.o w6 X6.o (.bool true) (.slice (some ⟨G,0,none⟩) 1 1) (.slice none 0 0) (.int .i64 0);have HZ:=ae (El.o w6 X6.o (.bool true) (.slice (some ⟨G,0,none⟩) 1 1) (.slice none 0 0) (.int .i64 0))
  have C0:=ae (Lq.o w6 X6.o (.bool true) (.slice (some ⟨G,0,none⟩) 1 1) (.slice none 0 0) (.int .i64 0));have Lb:=ae ((yT.o.pt.keep (fun j hj=>C0.o j (j1 ((yT.o.pt.lt j hj).1)))).mono (show w.heap.size<=B+1 by omega));have xh:=ae ((yT.o.st.keep (fun j hj=>C0.o j (j1 ((yT.o.st.lt j hj).1)))).mono (show w.heap.size<=B+1 by omega));go_wp2_with fail;refine bodyPost_ret (v:=.agg #[.bool true,.slice (some ⟨G,0,none⟩) 1 1,.slice none 0 0,.int .i64 0]) (by simp[results,Tryz.results21,go_sem,z0,z1,z2,z3]) rfl ⟨by rw[HOV.o];exact⟨_,_,_,_,_,_,rfl,Lb.o,xh.o⟩,HZ.o⟩
end Go.Proofs.YtdadoignenffgaaGreatDoor
