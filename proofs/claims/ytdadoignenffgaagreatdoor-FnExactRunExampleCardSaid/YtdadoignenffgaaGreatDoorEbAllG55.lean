import Derived.Test.YtdadoignenffgaaGreatDoorEbAllG28
import Derived.Test.YtdadoignenffgaaGreatDoorEbAllG50
import Derived.Test.YtdadoignenffgaaGreatDoorEbAllG51
import Derived.Test.YtdadoignenffgaaGreatDoorEbAllG15
import Derived.Test.YtdadoignenffgaaGreatDoorEbAllG22
import Derived.Test.YtdadoignenffgaaGreatDoorEbAllG8
set_option linter.unusedVariables false
set_option linter.unusedSimpArgs false
namespace Go.Proofs.YtdadoignenffgaaGreatDoor
variable{V:j7}{L:j2}{n:Nat}
set_option maxHeartbeats 16000000
set_option maxRecDepth 100000
open Go.RowKit
theorem o4.Xy(w:World)(base:Nat)(x:Int)(hb:base<=w.heap.size):o4 (w.alloc (.cells #[.int .i64 x] 3)) base (.slice (some ⟨w.heap.size,0,none⟩) 1 1) [x] :=
 aaY w #[.int .i64 x] 1 hb (by simp[maxLen]) rfl
theorem RY{p:Int}(hn:V.length=n):ev p V L=decide (iF p (((n:Int)-1)::L.map fun f=>f.1)=p):=by
 unfold ev;rw[hn,yr]
theorem yA{a b:Bool}(h:a=b):Ending.returned (.bool a)=.returned (.bool b):=by rw[h]
theorem yG{w:World}{p:Int}{a:j6}{cap:Nat}(hn:V.length=n)(Ft:n<=1000){fa:j6}{fn Cv:Nat}(h:Bq w fa fn Cv L)(hfn:fn<=1000000)(hL:∀f∈L,f.1<=1000):
 Calls Tryz.prog 56 #[pair p a n cap,.slice fa fn Cv] w fun e w'=>e=.returned (.bool (ev p V L))/\Ext w w':=by
 obtain⟨W,hW⟩:=b9 (w.alloc (.cells #[.int .i64 p,.slice a n cap] 32));have HX:=ae (show Ext w W by rw[hW];exact Ext.alloc _ _);have Z:=ae (show W.heap.size=w.heap.size+1 by rw[hW];simp);have EC:=ae (show W.cell? ⟨w.heap.size,0,none⟩=some (.int .i64 p)by rw[hW];simp);have EN:=ae (show W.cell? ⟨w.heap.size,1,none⟩=some (.slice a n cap)by rw[hW];simp);have HF:=ae (h.ext HX.o);have Bu:=ae h.hlen;have AO:=ae hL;have Kj:IntKind.i64.wrap ((n:Int)-1)=(n:Int)-1:=by rw[cn];omega
 have HD:=ae (RY (p:=p) (L:=L) hn);clear hn h hL;have Tu:=ae (show o4 (W.alloc (.cells #[.int .i64 ((n:Int)-1)] 3)) W.heap.size (.slice (some ⟨W.heap.size,0,none⟩) 1 1) (((n:Int)-1)::(L.take 0).map fun f=>f.1)from o4.Xy _ _ _ (ao _));go_enter Tryz.func56,Tryz.ntmps56
 go_upto_region 1 with fail;rw[<-hW];have e0:=EC.o;have e1:=EN.o;rw[Z.o]at Tu;clear hW;go_wp2_with fail
 go_loopg [5,6] fn (fun gk ff ii wr=>∃(k:Nat) (U:j6) (I Q:Nat),b7 (gk+k=fn)/\ff=.slice U I Q/\ii=.int .i64 (k:Int)/\b7 (o4 wr (w.heap.size+1) (.slice U I Q) (((n:Int)-1)::(L.take k).map fun f=>f.1))/\b7 (Ext W wr))
 case atStart=>exact⟨0,_,_,_,ae e7,by rw[Z.o],rfl,Tu,ae (Ext.alloc _ _)⟩
 case round =>
  obtain⟨g1,o7⟩:=b9 gk;subst o7;obtain⟨G,o5⟩:=b9 wr;subst o5;obtain⟨k,U,I,Q,HK,rfl,rfl,HO,O⟩:=hrel;have hsz:=O.o.size;rw[Z.o]at hsz;by_cases hlt:k<fn
  ·obtain⟨fb,Gj,RK,J,UN⟩:∃b off,fa=some ⟨b,off,none⟩/\L[k]?=some (L[k]?.getD (0,0,0))/\G.cell? ⟨b,off+k*3,none⟩=some (.int .i64 (L[k]?.getD (0,0,0)).1):=by
    obtain⟨b,off,e,hc⟩:=(HF.o.ext O.o).cell k hlt;have Ci:k<L.length:=by rw[Bu.o];exact hlt
    exact⟨b,off,e,by rw[bk Ci];rfl,(hc k hlt).1⟩
   subst RK
   have Bw:=ae (show(((n:Int)-1)::(L.take k).map fun f=>f.1)++[(L[k]?.getD (0,0,0)).1]=((n:Int)-1)::(L.take (k+1)).map fun f=>f.1 by
    rw[uW,<-eX J])
   obtain⟨s,hs⟩:=b9 ((L[k]?.getD (0,0,0)).1);rw[<-hs]at UN Bw;have KL:=ae (show(((n:Int)-1)::(L.take k).map fun f=>f.1).length<=1000001 by rw[OX,zo,FX];omega);clear J hs
   go_wp2_with (first
    | (at_builtin;refine bu rfl _ _ rfl (w.heap.size+1) (.slice U I Q) _ rfl (HO.o.ext (Ext.alloc _ _)) _ 1 _ [s] rfl (Ints.CL _ _ _ _ e8) (j1 KL.o) (by simp;omega) ?_;intro v2 w2 ho hg k9;have X2:=ae ((O.o.trans (Ext.alloc _ _)).grown hg (fun j hj=>by rw[Z.o];exact(HO.o.lt j hj).1));obtain⟨a2,n2,c2,rfl,Gu⟩:=ho.var;have As:=ae ho;clear ho hg k9))
   rw[Bw.o]at As
   go_roundg (g1-1)
   case measure=>have:=HK.o;omega
   case rel=>exact⟨k+1,_,_,_,ae (j1 HK.o),rfl,by go_num,As,X2⟩
  ·have k7:k=fn:=by have:=HK.o;omega
   have ZS:=ae (show L.take k=L from p4 (by rw[Bu.o];omega));rw[ZS.o]at HO;have hnF:I<=1000001:=by
    have h1:=HO.o.ints.hlen;simp only[OX,zo]at h1;have:=Bu.o;omega
   have Mw:=ae (fun(w':World) (hx:Ext G w')=>Nb (n:=p) (HO.o.ext hx).ints (O8 (V:=V) e7 AO.o) e7);obtain⟨rk,Uv⟩:=b9 (iF p (((n:Int)-1)::L.map fun f=>f.1));simp only[<-Uv]at Mw HD;clear Uv;have c0:=O.o.j9 EC.o;have Je:=ae (show(rk == p)=ev p V L by rw[HD.o];rfl);go_wp2_with fail;have hk:Ext G G.drew:=Ext.drew G;refine rN (S:=(fun w'=>w'.cell? ⟨w.heap.size,0,none⟩=some (.int .i64 p))) e9 ?_ (fun l7=>?_)
   ·exact hk.j9 c0
   refine tk 0 ?_;refine tk 1 ?_;refine tk 2 ?_;refine tk 4 ?_;refine tk 5 ?_;refine rd (i:=3) (h:=fun K hK=>?_);go_simp
   (go_at_call 114;refine(Mw.o _ hk).mono ?_;rintro e w3 ⟨rfl,zm⟩;have hk:=hk.trans zm)
   go_wp2_with fail;refine hK.out _ _ ?_ (fun l7=>?_)
   ·exact hk.j9 c0
   clear hK K
   try simp only[Act.put,sA,sB,sC]
   refine tk 6 ?_;refine tk 7 ?_;refine Gh e9 ?_ _;have HZ:=ae ((HX.o.trans O.o).trans hk);clear hk c0 l7;go_wp2_with fail;go_ret;exact⟨yA Je.o,HZ.o⟩
theorem yg{p:Int}(h:(aL p V&&p == 1)=false):DO p V ((AE V []).length+1) [] 0=CN p V:=by
 unfold CN;cases hg:aL p V
 ·rw[hD e8];exact pR (fun hc=>by have:=(iH hc.1).1;rw[hg]at this;cases this)
 ·rw[hI rfl];rw[hg,aad]at h;rw[hD (by simpa using h)]
theorem yf{p:Int}{f k:Nat}(h:Al p V L=true)(hs:(ci p.toNat V L).status=1):
 DO p V (f+1) L k=if ev p V (dE V L (ci p.toNat V L))=true then⟨true,ptN p.toNat (ci p.toNat V L),dE V L (ci p.toNat V L),k+1⟩ else DO p V f (dE V L (ci p.toNat V L)) (k+1):=by
 conv=>lhs;unfold DO
 rw[hI ⟨h,hs⟩]
theorem o0.Xz(w:World)(base:Nat)(x y:Int)(hb:base<=w.heap.size):o0 (w.alloc (.cells #[.int .i64 x,.int .i64 y] 62)) base (.slice (some ⟨w.heap.size,0,none⟩) 1 1) [(x,y)] :=
 ⟨by simp[Cm],.inr ⟨w.heap.size,1,_,rfl,hb,L' w _,ao _,by decide,rfl,by simp[Cm]⟩⟩
theorem pd{w:World}{p:Int}{a:j6}{cap:Nat}(h:Ints w a n cap V):
 Calls Tryz.prog 21 #[pair p a n cap] w fun e w'=>gq w' w.heap.size e (CN p V)/\Ext w w':=by
 obtain⟨W,hW⟩:=b9 ((w.alloc (.cells #[.int .i64 p,.slice a n cap] 32)).alloc (.cells #[.bool false,.slice none 0 0,.slice none 0 0,.int .i64 0] 44));have FL:W.heap.size=w.heap.size+2:=by rw[hW];simp
 have hX:Ext w W:=by rw[hW];exact(Ext.alloc _ _).trans (Ext.alloc _ _)
 have zF:=ae (show W.heap[w.heap.size+1]?=some (.cells #[.bool false,.slice none 0 0,.slice none 0 0,.int .i64 0] 44 (0,0))by rw[hW];exact ai _ _ _ e8);have EC:=ae (show W.cell? ⟨w.heap.size,0,none⟩=some (.int .i64 p)by rw[hW];exact Ext.j9 (Ext.alloc _ _) e8);have EN:=ae (show W.cell? ⟨w.heap.size,1,none⟩=some (.slice a n cap)by rw[hW];exact Ext.j9 (Ext.alloc _ _) e8);have HI:=ae (h.ext hX);have HX:=ae hX;have AM:=ae h.hlen;have hcapn:=h.l8;have S9:=h.l9;have Bc:=ae (fun(w':World) (hx:Ext W w') (v0 v1 v2 v3:Value)=>BZ (Q4 ((hx.block _ e7).trans zF.o) v0 v1 v2 v3).1);have IS:=ae (fun(w':World) (hx:Ext W w') (v0 v1 v2 v3:Value)=>SK (w:=w) (r:=w.heap.size+1) (HX.o.trans hx) (Cj _) v0 v1 v2 v3);have P6:=ae (fun(w':World) (hx:Ext W w') (v0 v1 v2 v3:Value)=>(Q4 ((hx.block (w.heap.size+1) e7).trans zF.o) v0 v1 v2 v3).2);have Gq:=ae (fun(w':World) (hx:Ext W w')=>BZ ((hx.block _ e7).trans zF.o));obtain⟨B,hB⟩:=b9 (w.heap.size+2);obtain⟨w1,GX⟩:=b9 (W.alloc (.cells #[.bool true,.slice none 0 0,.slice none 0 0,.int .i64 0] 44));have X1:=ae (show Ext W w1 by rw[GX];exact Ext.alloc _ _)
 have zv:=ae (show Aq W w1 B (.slice none 0 0) (.slice none 0 0) (.slice none 0 0) [] [] [] 0 from
  ⟨by rw[GX];exact ai _ _ _ e7,o0.nil _ _,zd.nil _ _ _ _,aaC _ _ _ _,X1.o,by omega⟩)
 have Sq:=ae (es (p:=p) (HI.o.ext X1.o));obtain⟨gb,B2⟩:=b9 (aL p V);rw[<-B2]at Sq;have Af:=ae B2;have J':=ae hB;have OP:W.heap.size<=B:=by omega
 obtain⟨o,ho⟩:=b9 (CN p V);rw[<-ho];have HOO:=ae ho;clear h hX B2 ho;go_enter Tryz.func21,Tryz.ntmps21
 go_upto_region 2 with fail;rw[<-hW,<-GX,show w.heap.size+1+1=B from hB.symm];clear hW GX hB
 go_cut [17] (fun s17 wx=>s17=.bool (gb&&p == 1)/\b7 (Ext w1 wx))
 case first =>
  have c0:=X1.o.j9 EC.o;have c1:=X1.o.j9 EN.o;cases gb
  ·go_wp2_with fail;refine Sq.o.mono ?_;rintro e wx ⟨rfl,hx⟩;have DL:=ae hx;clear hx;go_wp2_with fail;go_meet;exact⟨rfl,DL⟩
  ·go_wp2_with fail;refine Sq.o.mono ?_;rintro e wx ⟨rfl,hx⟩;have DL:=ae hx;have c0:=hx.j9 c0;have c1:=hx.j9 c1;clear hx;go_wp2_with fail;go_meet;exact⟨rfl,DL⟩
 obtain⟨rfl,E7⟩:=hcut;have Fk:=ae (zv.o.grow E7.o);obtain⟨bb,Bg⟩:=b9 ((gb&&p == 1));rw[<-Bg];have DC:=ae Bg;clear Bg;generalize wc=w2 at Fk E7⊢;cases bb
 ·have HN:=ae (show DO p V ((AE V []).length+1) [] 0=o by rw[HOO.o];exact yg (by rw[<-Af.o];exact DC.o.symm));go_wp2_with fail
  go_loopg [] ((AE V []).length+1) (fun gk wr=>∃(k:Nat) (L:j2) (pt:j4) (vp vs:Value),b7 (gk+k=(AE V []).length+1)/\b7 (Aq W wr B vp vs (.slice none 0 0) pt L [] k)/\b7 ((AE V L).length+1<=gk)/\b7 (∀f∈L,f.1<=1000)/\b7 (L.length<=32*k)/\b7 (k<=40)/\b7 (DO p V gk L k=o))
  case atStart=>exact⟨0,[],[],_,_,ae e7,Fk,ae (ao _),ae (fun f hf=>by cases hf),ae e8,ae e7,HN⟩
  case round =>
   obtain⟨g1,o7⟩:=b9 gk;subst o7;obtain⟨o6,o5⟩:=b9 wr;subst o5;obtain⟨k,L,pt,vp,vs,HK,HO,QE,AO,AN,Bs,KI⟩:=hrel;obtain⟨aS,nS,cS,rfl,Sk⟩:=HO.o.st.var;have hk40:=Bs.o;have hnS:nS<=1300:=by rw[<-Sk.o];have:=AN.o;omega
   obtain⟨b0,b1,Q,O,bf⟩:=BZ HO.o.box;have e0:=HO.o.ext.j9 EC.o;have e1:=HO.o.ext.j9 EN.o;have Hj:=ae (yF (p:=p) (HI.o.ext HO.o.ext) HO.o.st.JI e7);obtain⟨ok,zO⟩:=b9 (Al p V L);rw[<-zO]at Hj;have A5:=ae zO;clear zO;go_wp2_with fail;refine Hj.o.mono ?_;rintro e w4 ⟨Lu,zX⟩;obtain⟨la,GP,GS,lb,GO,GR,lc,GN,GQ,rfl,Lz⟩:=Lu.lpc;unfold DD;obtain⟨w5,Hu⟩:=b9 (w4.alloc (bj la GP GS lb GO GR lc GN GQ));have AK:Ext w4 w5:=by rw[Hu];exact Ext.alloc _ _
   have K5:=ae (zX.trans AK);have X5:=ae (HO.o.ext.trans K5.o);have KG:=qY (Lz.ext AK);obtain⟨r,hr⟩:=b9 (fd (GL p V L) (GK p V L) (GJ p V L));rw[<-hr]at KG;have Gn:=ae KG;have J6:=ae hr;have t0:=am (show w5.heap[w4.heap.size]?=some (.cells #[.slice la GP GS,.slice lb GO GR,.slice lc GN GQ] 68 (0,0))by rw[Hu];exact ai _ _ _ rfl);have t1:=aD (show w5.heap[w4.heap.size]?=some (.cells #[.slice la GP GS,.slice lb GO GR,.slice lc GN GQ] 68 (0,0))by rw[Hu];exact ai _ _ _ rfl);have t2:=aG (show w5.heap[w4.heap.size]?=some (.cells #[.slice la GP GS,.slice lb GO GR,.slice lc GN GQ] 68 (0,0))by rw[Hu];exact ai _ _ _ rfl);have Ei:=ae K5.o.size;go_upto_region 6 with fail;rw[<-Hu];clear KG hr Hu AK zX Lz Lu b0 b1 Q O bf e0 e1;go_wp2_with fail;refine Gn.o.mono ?_;rintro e w6 ⟨⟨xa,xn,xc,ya,yn,yc,ra,rn,rc,rfl,DH⟩,Ki⟩;obtain⟨w7,DE⟩:=b9 (w6.alloc (bX r xa xn xc ya yn yc ra rn rc));have Mj:Ext w6 w7:=by rw[DE];exact Ext.alloc _ _
   have K7:=ae ((K5.o.trans Ki).trans Mj);have X7:=ae (HO.o.ext.trans K7.o);have A1:=ae ((DH.ext Mj).mono Ei.o);have Fb:=ae (show w7.heap[w6.heap.size]?=some (bX r xa xn xc ya yn yc ra rn rc)by rw[DE];exact ai _ _ _ rfl);have JP:=ae (show o6.heap.size<=w6.heap.size by have h1:=Ki.size;have h2:=Ei.o;omega);obtain⟨q,hq⟩:=b9 p.toNat
   have C0:=ae (fun(h:ok=true)=>show r=ci q V L by
    have zO:=A5.o.symm.trans h;obtain⟨E1,E2,E3⟩:=pY zO;rw[J6.o,E1,E2,E3,hq]
    exact(Nw zO).symm)
   have HQ:=ae hq;obtain⟨rs,rX,J,rr,⟨U,Z⟩,rp⟩:=r;unfold CC;go_upto_region 7 with fail;rw[<-DE];clear DH Ki Mj DE t0 t1 t2 hq J6;generalize w6.heap.size=G at Fb JP⊢;have LH:=mr Fb.o;obtain⟨l0,l1,l2,l3,l4,l5,l6,lf⟩:=zN Fb.o
   try simp only at l0 l1 l2 l3 l4 l5 l6
   by_cases hgo:ok=true/\rs=1
   ·obtain⟨rfl,rfl⟩:=hgo;obtain⟨hgm,Ux,_,_⟩:=iH A5.o.symm;obtain⟨_,Vg,zR,C4,EX,_⟩:=iL hgm;have EB:=ae (C0.o rfl);have VH:=ae (qI A5.o.symm (by rw[<-HQ.o,<-EB.o]));have HFE:=ae (oO A5.o.symm (by rw[<-HQ.o,<-EB.o]));have PQ:=ae (fun f=>yf (f:=f) (k:=k) A5.o.symm (by rw[<-HQ.o,<-EB.o]));rw[<-HQ.o,<-EB.o]at VH HFE PQ;rw[<-HQ.o]at zR C4 EX;have HGM:=ae hgm;have Ay:=ae zR;have Ft:n<=32:=by rw[<-AM.o];exact Vg
    have Dt:2<=q:=by omega
    clear hgm Vg zR;obtain⟨Mi,Jk,EV,Ht⟩:=VH.o
    try simp only at Mi Jk EV Ht
    have A4:=aQ EV
    try simp only at A4
    have Vw:=ae Mi;have Hi:=ae Jk;have Vv:=ae Ht;have Em:q+1=yn:=by have h1:=A1.o.y.here.hlen;have h2:=Hi.o;(try simp only at h1);omega
    have HQ2:=ae Dt;clear Mi Jk EV Ht Ux;have IJ:=ae (HO.o.grow K7.o);have EI:=ae HO.o.lt;have I6:=ae (BD.refl o6.heap.size w7);obtain⟨b0,b1,Q,O,bf⟩:=BZ IJ.o.box;obtain⟨k1,BR⟩:∃x:Int,x=(k:Int)+1:=⟨_,rfl⟩;have hwk:IntKind.i64.wrap ((k:Int)+1)=k1:=by rw[cn];omega
    have HK1:=ae (show k1=((k+1:Nat):Int)by omega);clear BR;obtain⟨w8,Kk⟩:=b9 (w7.setCell ⟨B,3,none⟩ (.int .i64 k1));have J7:=ae (IJ.o.Xq (k':=k+1) HK1.o);have LS:=ae (I6.o.set (j:=3) EI.o (.int .i64 k1));rw[<-Kk]at J7 LS;go_upto_region 10 with fail;rw[<-Kk];clear Kk b0 b1 Q O bf hwk;obtain⟨b0,b1,Q,O,bf⟩:=BZ J7.o.box;obtain⟨w9,SQ⟩:=b9 (w8.setCell ⟨B,1,none⟩ (.slice none 0 0));have FR:=ae (J7.o.TS (o0.nil _ _));have KH:=ae (LS.o.set (j:=1) EI.o (.slice none 0 0));rw[<-SQ]at FR KH;go_upto_region 11 with fail;rw[<-SQ];clear SQ b0 b1 Q O bf l0 l1 l2 l3 l4 l5 l6 lf;have Me:=ae (KH.o.blk JP.o Fb.o);have HLRX:=ae (KH.o.on A1.o.x);have HLRY:=ae (KH.o.on A1.o.y);go_wp2_with fail
    go_loopg [7] q (fun gk ii wr=>∃(j:Nat) (MK:Value),b7 (gk+j=q)/\ii=.int .i64 (j:Int)/\b7 (Aq W wr B MK (.slice aS nS cS) (.slice none 0 0) ((J.take j).map ze) L [] (k+1))/\b7 (BD o6.heap.size w9 wr)/\b7 (Off o6.heap.size w9.heap.size MK))
    case atStart=>exact⟨0,_,ae e7,rfl,FR,ae (BD.refl _ _),ae (Off.nil _ _ _ _)⟩
    case round =>
     obtain⟨g2,Am⟩:=b9 gk;subst Am;obtain⟨wr2,zx⟩:=b9 wr;subst zx;obtain⟨j,vp2,HJ,rfl,As,B6,LY⟩:=hrel;obtain⟨Tn,SM,Tk,rfl,HNP2⟩:=As.o.pt.var;have c0:=As.o.ext.j9 EC.o;by_cases hjq:j<q
     ·have Wx:j<yn:=by omega
      have hjp:(j:Int)<p:=by have:=Ay.o;omega
      obtain⟨yb,zE,y1,y2,Wi,Wh,XO,XN⟩:=(B6.o.on HLRY.o).here.at Wx;subst Wi
      try simp only at Wh
      obtain⟨l0,l1,l2,l3,l4,l5,l6,lf⟩:=zN (B6.o.blk JP.o Me.o)
      try simp only at l0 l1 l2 l3 l4 l5 l6
      obtain⟨b0,b1,Q,O,bf⟩:=BZ As.o.box
      have Bw:=ae (show((J.take j).map ze)++[(-y1,y2)]=(J.take (j+1)).map ze by
       have Ca:j<J.length:=by have:=Hi.o;omega
       rw[Kn Ca,We,ac0];rw[bk Ca,l']at Wh
       rw[Wh];rfl)
      have GU:-9223372036854775807<=y1/\y1<=9223372036854775807:=by
       have:=aQ (Vv.o j (j1 Hi.o));rw[Wh]at this;simp only at this;omega
      have PR:=ae (show((J.take j).map ze).length<=100 by rw[zo,FX];omega);have Mc:=ae As.o.lt;have HYJ:=ae Wh;clear Wh;go_wp2_with fail;have I:Ext wr2 wr2.drew:=Ext.drew wr2;have k8:=ae (fun(w':World) (h:Ext wr2 w')=>(⟨h.j9 b1,h.j9 l2,h.j9 XO,h.j9 XN⟩:w'.cell? ⟨B,1,none⟩=some (.slice Tn SM Tk)/\w'.cell? ⟨G,2,none⟩=some (.slice (some ⟨yb,zE,none⟩) yn yc)/\w'.cell? ⟨yb,zE+j*2,none⟩=some (.int .i64 y1)/\w'.cell? ⟨yb,zE+j*2+1,none⟩=some (.int .i64 y2)));refine dD (M:=[11]) (S:=fun w'=>w'.cell? ⟨B,1,none⟩=some (.slice Tn SM Tk)/\w'.cell? ⟨G,2,none⟩=some (.slice (some ⟨yb,zE,none⟩) yn yc)/\w'.cell? ⟨yb,zE+j*2,none⟩=some (.int .i64 y1)/\w'.cell? ⟨yb,zE+j*2+1,none⟩=some (.int .i64 y2)) e9 ?_;have l7:=k8.o _ I;obtain⟨wd,hwd⟩:=b9 wr2.drew;rw[<-hwd]at I l7;rw[<-hwd];clear hwd;refine lp 0 ?_;refine ll 1 ?_;refine lp 2 ?_;refine ll 3 ?_;refine lp 4 ?_;refine lp 5 ?_;refine ll 6 ?_;refine bg (i:=7) (oi:=?_) ?_ ?_ ?_ (fun K hK=>?_);rotate_left
      ·simp only[gA,gB,gC];rfl
      ·kernel_rfl
      ·kernel_rfl
      go_simp;go_at_call 51;refine(fm y1 y2 _ e7 e7).mono ?_;rintro e EP ⟨rfl,B8⟩;have I:Ext wr2 EP:=I.trans B8;have Oe:=I.size;go_wp2_with fail;refine hK.out _ _ (fun _=>k8.o _ I) ?_;have l7:=k8.o _ I;clear hK K
      try simp only[Act.put,sA,sB,sC]
      refine bg (i:=8) (oi:=?_) ?_ ?_ ?_ (fun K hK=>?_);rotate_left
      ·simp only[gA,gB,gC];rfl
      ·kernel_rfl
      ·kernel_rfl
      go_simp;refine hK.out _ _ (fun _=>k8.o _ (I.trans (Ext.alloc _ _))) ?_;clear hK K
      try simp only[Act.put,sA,sB,sC]
      refine bg (i:=9) (oi:=?_) ?_ ?_ ?_ (fun K hK=>?_);rotate_left
      ·simp only[gA,gB,gC];rfl
      ·kernel_rfl
      ·kernel_rfl
      refine dr _ _ j0 (B+1) (.slice Tn SM Tk) _ j0 (As.o.pt.ext (I.trans (Ext.alloc _ _))) _ 1 _ [(-y1,y2)] j0 (Rats.one' _ _ _ _ _ e8) (j1 PR.o) (by have h2:=Mc.o;simp;omega) ?_;intro v13 Mh ho hg k9;have Qa:=ae ((hg.block B (by have h2:=Mc.o;simp;omega) (fun e=>by have:=(As.o.pt.lt B e.symm).1;omega)).trans ((I.trans (Ext.alloc _ _)).blk As.o.box));have Hk:=ae ((B6.o.ext (I.trans (Ext.alloc _ _))).grown hg LY.o);have L2:=ae (LY.o.near k9 (by have h1:=B6.o.size;simp;omega));obtain⟨Qq,n13,c13,rfl,Tv⟩:=ho.var;have CT:=ae (As.o.Zp (I.trans (Ext.alloc _ _)) hg ho);obtain⟨c0,c1,c2,c3,cf⟩:=BZ Qa.o;obtain⟨m0,m1,m2,m3,m4,m5,m6,mf⟩:=zN (Hk.o.blk JP.o Me.o)
      (try simp only at m0 m1 m2 m3 m4 m5 m6)
      obtain⟨yb',Xl,y1',y2',XL,XJ,Ub,Ua⟩:=(Hk.o.on HLRY.o).here.at Wx;simp only[bA,mq,zz]at XL;obtain⟨rfl,rfl⟩:=XL;have XQ:=HYJ.o.symm.trans XJ;simp only[aaG]at XQ;obtain⟨rfl,rfl⟩:=XQ;clear ho hg k9 XJ;refine hK.out _ _ (fun _=>JH c1 (JH m2 (JH Ub Ua))) ?_;have l7:=JH c1 (JH m2 (JH Ub Ua));clear hK K
      try simp only[Act.put,sA,sB,sC]
      refine lp 10 ?_;refine dM (i:=11) (oi:=?_) (w':=?_) ?_ ?_ ?_ ?_ ?_ ?_ ?_;rotate_left 2
      ·simp only[gA,gB,gC];rfl
      ·kernel_rfl
      ·kernel_rfl
      ·exact EE e9
      ·rfl
      ·go_simp;(try with_reducible rfl)
      try simp only[Act.put,sA,sB,sC]
      refine dV e9 ?_ _;rw[Bw.o]at CT;obtain⟨TO,F2⟩:=b9 (Mh.setCell ⟨B,1,none⟩ (.slice Qq n13 c13));have IF:=ae (Hk.o.set (j:=1) EI.o (.slice Qq n13 c13));rw[<-F2]at CT IF;go_upto_region 13 with fail;rw[<-F2];clear F2 c0 c1 c2 c3 cf m0 m1 m2 m3 m4 m5 m6 mf b0 b1 Q O bf l0 l1 l2 l3 l4 l5 l6 lf Ub Ua XO XN l7 I k8;go_wp2_with fail
      go_roundg (g2-1)
      case measure=>have:=HJ.o;omega
      case rel=>exact⟨j+1,_,ae (j1 HJ.o),by go_num,CT,IF,L2⟩
     ·have YP:j=q:=by have:=HJ.o;omega
      have hjp:¬(j:Int)<p:=by have:=Ay.o;omega
      rw[YP]at As;have HS2':=ae B6.o;obtain⟨b0,b1,Q,O,bf⟩:=BZ As.o.box;have e1:=As.o.ext.j9 EN.o;have JR:=ae (lC p a n cap e7 As.o.st.JI);clear YP;go_wp2_with fail;refine JR.o.mono ?_;rintro e Hr ⟨⟨v,rfl,ho⟩,GW⟩;obtain⟨a11,m,c11,rfl,HM⟩:=ho.var;have L0:=ae (As.o.grow GW);have Hl:=ae (B6.o.ext GW);have HS911:=ae (show w9.heap.size<=Hr.heap.size from Hl.o.size);have P4:=ae (show aX L (n-2)=AE V L by unfold AE;rw[AM.o]);rw[P4.o]at ho HM;have Su:=ae (ho.mono (show o6.heap.size<=wr2.heap.size by have h1:=B6.o.size;have h2:=KH.o.size;have h3:=K7.o.size;omega));have PW:=ae (Hl.o.on HLRX.o);have IU:=ae (Hl.o.blk JP.o Me.o);have VS:=ae (Off.of (hi:=Hr.heap.size) HO.o.st.lt (ao _));have hmx:m<=xn:=by have h1:=PW.o.here.hlen;have h2:=Vw.o;have h3:=HM.o;(try simp only at h1);omega
      have UC:m<=32:=by
       have h1:(AE V L).length<=V.length-2:=dU L (V.length-2);have h2:=AM.o;have h3:=HM.o;omega
      have VP:=ae (show(L++AZ (AE V L) ⟨1,rX,J,rr,(U,Z),rp⟩ 0)=L by rw[qH,ZR]);clear ho GW b0 b1 Q O bf e1 c0 hjp hjq;go_wp2_with fail
      go_loopg [9] m (fun gk ii wr=>∃(j:Nat) (vs':Value),b7 (gk+j=m)/\ii=.int .i64 (j:Int)/\b7 (Aq W wr B (.slice Tn SM Tk) vs' (.slice none 0 0) ((J.take q).map ze) (L++AZ (AE V L) ⟨1,rX,J,rr,(U,Z),rp⟩ j) [] (k+1))/\b7 (BD o6.heap.size Hr wr)/\b7 (Off o6.heap.size Hr.heap.size vs'))
      case atStart=>exact⟨0,_,ae e7,rfl,ae (by rw[VP.o];exact L0.o),ae (BD.refl _ _),VS⟩
      case round =>
       obtain⟨g3,D8⟩:=b9 gk;subst D8;obtain⟨wr3,B4⟩:=b9 wr;subst B4;obtain⟨j3,vs3,HJ3,rfl,zi,Cz,VQ⟩:=hrel;obtain⟨Vp,SL,Vm,rfl,HNS3⟩:=zi.o.st.var;by_cases Ga:j3<m
       ·have hjx:j3<xn:=by omega
        obtain⟨fb,Gj,RK,UN⟩:=(Cz.o.ints (ao _) Su.o).ints.at Ga;subst RK;obtain⟨xb,MI,x1,x2,Rh,Ud,hxc1,hxc2⟩:=(Cz.o.on PW.o).here.at hjx;subst Rh;obtain⟨l0,l1,l2,l3,l4,l5,l6,lf⟩:=zN (Cz.o.blk JP.o IU.o)
        try simp only at l0 l1 l2 l3 l4 l5 l6 Ud
        obtain⟨s,hs⟩:=b9 ((AE V L)[j3]?.getD 0);rw[<-hs]at UN;by_cases y9:0<x1
        ·have My:=ae (show(L++AZ (AE V L) ⟨1,rX,J,rr,(U,Z),rp⟩ j3)++[(s,-U,Z)]=L++AZ (AE V L) ⟨1,rX,J,rr,(U,Z),rp⟩ (j3+1)by
          rw[jA,hI (by show 0<(rX[j3]?.getD (0,0)).1;rw[Ud];exact y9),<-hs,N7])
         obtain⟨b0,b1,Q,O,bf⟩:=BZ zi.o.box
         have PR:=ae (show(L++AZ (AE V L) ⟨1,rX,J,rr,(U,Z),rp⟩ j3).length<=2000 by
          rw[pk];have h1:=kp (AE V L) ⟨1,rX,J,rr,(U,Z),rp⟩ j3;have h2:=AN.o
          omega)
         have Mc:=ae zi.o.lt;have WX:=ae hs;clear hs;go_wp2_with fail;have I:Ext wr3 wr3.drew:=Ext.drew wr3;have k8:=ae (fun(w':World) (h:Ext wr3 w')=>(⟨h.j9 Q,h.j9 l4,h.j9 l5,h.j9 UN⟩:w'.cell? ⟨B,2,none⟩=some (.slice Vp SL Vm)/\w'.cell? ⟨G,4,none⟩=some (.int .i64 U)/\w'.cell? ⟨G,5,none⟩=some (.int .i64 Z)/\w'.cell? ⟨fb,Gj+j3,none⟩=some (.int .i64 s)));refine dD (M:=[13]) (S:=fun w'=>w'.cell? ⟨B,2,none⟩=some (.slice Vp SL Vm)/\w'.cell? ⟨G,4,none⟩=some (.int .i64 U)/\w'.cell? ⟨G,5,none⟩=some (.int .i64 Z)/\w'.cell? ⟨fb,Gj+j3,none⟩=some (.int .i64 s)) e9 ?_;have l7:=k8.o _ I;obtain⟨wd,hwd⟩:=b9 wr3.drew;rw[<-hwd]at I l7;rw[<-hwd];clear hwd;refine lp 0 ?_;refine ll 1 ?_;refine lp 2 ?_;refine lp 3 ?_;refine lp 4 ?_;refine ll 5 ?_;refine lp 6 ?_;refine ll 7 ?_;refine bg (i:=8) (oi:=?_) ?_ ?_ ?_ (fun K hK=>?_);rotate_left
         ·simp only[gA,gB,gC];rfl
         ·kernel_rfl
         ·kernel_rfl
         go_simp;go_at_call 51;refine(fm U Z _ e7 e7).mono ?_;rintro e EP ⟨rfl,B8⟩;have I:Ext wr3 EP:=I.trans B8;have Oe:=I.size;go_wp2_with fail;refine hK.out _ _ (fun _=>k8.o _ I) ?_;have l7:=k8.o _ I;clear hK K
         try simp only[Act.put,sA,sB,sC]
         refine lp 9 ?_;refine bg (i:=10) (oi:=?_) ?_ ?_ ?_ (fun K hK=>?_);rotate_left
         ·simp only[gA,gB,gC];rfl
         ·kernel_rfl
         ·kernel_rfl
         go_simp;refine hK.out _ _ (fun _=>k8.o _ (I.trans (Ext.alloc _ _))) ?_;clear hK K
         try simp only[Act.put,sA,sB,sC]
         refine bg (i:=11) (oi:=?_) ?_ ?_ ?_ (fun K hK=>?_);rotate_left
         ·simp only[gA,gB,gC];rfl
         ·kernel_rfl
         ·kernel_rfl
         refine fS BM Tryz.FK rfl abD (by decide) _ _ j0 (B+1) (.slice Vp SL Vm) _ j0 (zi.o.st.ext (I.trans (Ext.alloc _ _))) _ 1 1 [(s,-U,Z)] j0 (BU.lit BM _ _ _ 1 j0 _ j0 _ j0 e7) (j1 PR.o) (by have h2:=Mc.o;simp;omega) ?_;intro v13 Mh ho hg k9;have Qa:=ae ((hg.block B (by have h2:=Mc.o;simp;omega) (fun e=>by have:=(zi.o.st.lt B e.symm).1;omega)).trans ((I.trans (Ext.alloc _ _)).blk zi.o.box));have Hk:=ae ((Cz.o.ext (I.trans (Ext.alloc _ _))).grown hg VQ.o);have L2:=ae (VQ.o.near k9 (by have h1:=Cz.o.size;simp;omega));obtain⟨Qq,n13,c13,rfl,Tv⟩:=ho.var;have CT:=ae (zi.o.Tj (I.trans (Ext.alloc _ _)) hg ho);obtain⟨c0,c1,c2,c3,cf⟩:=BZ Qa.o;obtain⟨m0,m1,m2,m3,m4,m5,m6,mf⟩:=zN (Hk.o.blk JP.o IU.o)
         (try simp only at m0 m1 m2 m3 m4 m5 m6)
         obtain⟨fb',foff',Y1,RL⟩:=(Hk.o.ints (ao _) Su.o).ints.at Ga;simp only[bA,mq,zz]at Y1;obtain⟨rfl,rfl⟩:=Y1;rw[<-WX.o]at RL;clear ho hg k9;refine hK.out _ _ (fun _=>JH c2 (JH m4 (JH m5 RL))) ?_;have l7:=JH c2 (JH m4 (JH m5 RL));clear hK K
         try simp only[Act.put,sA,sB,sC]
         refine lp 12 ?_;refine dM (i:=13) (oi:=?_) (w':=?_) ?_ ?_ ?_ ?_ ?_ ?_ ?_;rotate_left 2
         ·simp only[gA,gB,gC];rfl
         ·kernel_rfl
         ·kernel_rfl
         ·exact EE e9
         ·rfl
         ·go_simp;(try with_reducible rfl)
         try simp only[Act.put,sA,sB,sC]
         refine dV e9 ?_ _;rw[My.o]at CT;obtain⟨TO,F2⟩:=b9 (Mh.setCell ⟨B,2,none⟩ (.slice Qq n13 c13));have IF:=ae (Hk.o.set (j:=2) EI.o (.slice Qq n13 c13));rw[<-F2]at CT IF;go_upto_region 18 with fail;rw[<-F2];clear F2 c0 c1 c2 c3 cf m0 m1 m2 m3 m4 m5 m6 mf b0 b1 Q O bf l0 l1 l2 l3 l4 l5 l6 lf l7 I k8 UN RL;go_wp2_with fail
         go_roundg (g3-1)
         case measure=>have:=HJ3.o;omega
         case rel=>exact⟨j3+1,_,ae (j1 HJ3.o),by go_num,CT,IF,L2⟩
        ·have My:=ae (show(L++AZ (AE V L) ⟨1,rX,J,rr,(U,Z),rp⟩ j3)=L++AZ (AE V L) ⟨1,rX,J,rr,(U,Z),rp⟩ (j3+1)by
          rw[jA,hD (by show¬0<(rX[j3]?.getD (0,0)).1;rw[Ud];exact y9),ZR])
         clear hs;go_wp2_with fail
         go_roundg (g3-1)
         case measure=>have:=HJ3.o;omega
         case rel=>exact⟨j3+1,_,ae (j1 HJ3.o),by go_num,ae (by rw[<-My.o];exact zi.o),Cz,VQ⟩
       ·have F':j3=m:=by have:=HJ3.o;omega
        have HE:=ae (show L++AZ (AE V L) ⟨1,rX,J,rr,(U,Z),rp⟩ j3=dE V L ⟨1,rX,J,rr,(U,Z),rp⟩by unfold dE;rw[HM.o,F']);rw[HE.o]at zi;clear F';obtain⟨N,hN⟩:=b9 (dE V L ⟨1,rX,J,rr,(U,Z),rp⟩);have FT:=ae (vh (V:=V) (L:=L) (r:=⟨1,rX,J,rr,(U,Z),rp⟩) (k:=k) (by rw[AM.o];exact Ft) AO.o AN.o);have JM:=ae (PQ.o (g1-1));have JQ:=ae (show g1-1+1=g1 by have:=QE.o;omega);rw[JQ.o,KI.o]at JM;have HFE2:=ae HFE.o;rw[<-hN]at zi FT JM HFE2;clear hN;have hnS3:SL<=100000:=by have h1:=HNS3.o;have h2:=FT.o.2;have h3:=zi.o.st.JI.hlen;omega
        have VY:=ae (yG (p:=p) (a:=a) (cap:=cap) AM.o e7 zi.o.st.JI e7 FT.o.1);obtain⟨d,hd⟩:=b9 (ev p V N);rw[<-hd]at VY JM;obtain⟨b0,b1,Q,O,bf⟩:=BZ zi.o.box;have e0:=zi.o.ext.j9 EC.o;have e1:=zi.o.ext.j9 EN.o;clear hd;go_wp2_with fail;refine VY.o.mono ?_;rintro e Dl ⟨rfl,NV⟩;have E':=ae (zi.o.grow NV);clear b0 b1 Q O bf e0 e1 NV;cases d
        ·have HR:=ae (show DO p V (g1-1) N (k+1)=o from JM.o.symm);go_wp2_with fail
         go_roundg (g1-1)
         case measure=>have:=QE.o;omega
         case rel=>exact⟨k+1,N,_,_,_,ae (by have h1:=HK.o;have h2:=QE.o;omega),E',ae (by have h1:=HFE2.o;have h2:=QE.o;omega),ae FT.o.1,ae FT.o.2,ae (by have h1:=HK.o;have h2:=QE.o;have h3:(AE V []).length<=V.length-2:=dU [] (V.length-2);have h4:=AM.o;omega),HR⟩
        ·have HR:=ae (show o=⟨true,(J.take q).map ze,N,k+1⟩from JM.o);obtain⟨b0,b1,Q,O,bf⟩:=BZ E'.o.box;have WQ:=ae E'.o.ext;obtain⟨q0,q1,q2,q3,qf⟩:=Gq.o Dl WQ.o;obtain⟨kk,Ha⟩:∃x:Int,x=((k+1:Nat):Int):=⟨_,rfl⟩;rw[<-Ha]at O;have L6:=ae Ha;clear Ha;obtain⟨z0,z1,z2,z3,_⟩:=Bc.o Dl WQ.o (.bool true) (.slice Tn SM Tk) (.slice Vp SL Vm) (.int .i64 kk);have HZ:=ae (IS.o Dl WQ.o (.bool true) (.slice Tn SM Tk) (.slice Vp SL Vm) (.int .i64 kk));have GF:=ae (P6.o Dl WQ.o (.bool true) (.slice Tn SM Tk) (.slice Vp SL Vm) (.int .i64 kk));have PL:=ae ((E'.o.pt.keep (fun j hj=>GF.o j (j1 ((E'.o.pt.lt j hj).1)))).mono (show w.heap.size<=B+1 by omega));have AT:=ae ((E'.o.st.keep (fun j hj=>GF.o j (j1 ((E'.o.st.lt j hj).1)))).mono (show w.heap.size<=B+1 by omega));go_wp2_with fail;refine bR (v:=.agg #[.bool true,.slice Tn SM Tk,.slice Vp SL Vm,.int .i64 kk]) (by simp[results,acS,go_sem,z0,z1,z2,z3]) rfl ⟨by rw[HR.o];exact⟨_,_,_,_,_,_,by rw[L6.o],PL.o,AT.o⟩,HZ.o⟩
   ·have FE:=ae (show o=DV.no by
     rw[<-KI.o];refine pR (fun h=>hgo ?_);rw[<-A5.o,<-HQ.o]at h;refine⟨h.1,?_⟩;have h2:=h.2;rw[<-C0.o h.1]at h2
     exact h2)
    obtain⟨q0,q1,q2,q3,qf⟩:=Gq.o w7 X7.o;obtain⟨z0,z1,z2,z3,_⟩:=Bc.o w7 X7.o (.bool false) (.slice none 0 0) (.slice none 0 0) (.int .i64 0);have HZ:=ae (IS.o w7 X7.o (.bool false) (.slice none 0 0) (.slice none 0 0) (.int .i64 0));cases ok
    ·go_wp2_with fail;refine bR (v:=.agg #[.bool false,.slice none 0 0,.slice none 0 0,.int .i64 0]) (by simp[results,acS,go_sem,z0,z1,z2,z3]) rfl ⟨by rw[FE.o];exact gq.no _ _,HZ.o⟩
    ·have Ec:(rs != 1)=true:=by
      have:rs≠1:=fun h=>hgo ⟨rfl,h⟩
      simp[this]
     go_wp2_with fail;refine bR (v:=.agg #[.bool false,.slice none 0 0,.slice none 0 0,.int .i64 0]) (by simp[results,acS,go_sem,z0,z1,z2,z3]) rfl ⟨by rw[FE.o];exact gq.no _ _,HZ.o⟩
 ·have G9:p=1:=by
   have:=DC.o;cases gb
   ·cases this
   ·simpa using this.symm
  have DY:aL p V=true:=by
   have:=DC.o;rw[<-Af.o];cases gb
   ·cases this
   ·rfl
  have HOV:=ae (show o=⟨true,[(bY p V,1)],[],0⟩by rw[HOO.o];unfold CN;rw[hI DY,hI G9]);have Gv:=ae (lz (p:=p) (HI.o.ext Fk.o.ext));obtain⟨g,hg⟩:=b9 (bY p V);rw[<-hg]at Gv HOV;have c0:=Fk.o.ext.j9 EC.o;have c1:=Fk.o.ext.j9 EN.o;clear G9 DY hg;go_wp2_with fail;refine Gv.o.mono ?_;rintro e w3 ⟨rfl,zm⟩;go_wp2_with fail;refine(cO g _).mono ?_;rintro e w4 ⟨rfl,zX⟩;have AK:Ext w2 (w4.alloc (.cells #[.int .i64 g,.int .i64 1] 62)):=(zm.trans zX).trans (Ext.alloc _ _);have zW:=ae (Fk.o.grow AK);have Qz:=ae (o0.Xz w4 (B+1) g 1 (by have h1:=Fk.o.lt;have h2:=(zm.trans zX).size;omega));have Cf:=ae (zW.o.TS Qz.o);obtain⟨b0,b1,Q,O,bf⟩:=BZ zW.o.box;obtain⟨w6,F1⟩:=b9 ((w4.alloc (.cells #[.int .i64 g,.int .i64 1] 62)).setCell ⟨B,1,none⟩ (.slice (some ⟨w4.heap.size,0,none⟩) 1 1));rw[<-F1]at Cf;clear zm zX AK c0 c1;go_upto_region 4 with fail;rw[<-F1];generalize w4.heap.size=G at Cf⊢;clear F1 b0 b1 Q O bf;obtain⟨b0,b1,Q,O,bf⟩:=BZ Cf.o.box;have X6:=ae Cf.o.ext;obtain⟨q0,q1,q2,q3,qf⟩:=Gq.o w6 X6.o;obtain⟨z0,z1,z2,z3,_⟩:=Bc.o w6 X6.o (.bool true) (.slice (some ⟨G,0,none⟩) 1 1) (.slice none 0 0) (.int .i64 0);have HZ:=ae (IS.o w6 X6.o (.bool true) (.slice (some ⟨G,0,none⟩) 1 1) (.slice none 0 0) (.int .i64 0))
  have GF:=ae (P6.o w6 X6.o (.bool true) (.slice (some ⟨G,0,none⟩) 1 1) (.slice none 0 0) (.int .i64 0));have PL:=ae ((Cf.o.pt.keep (fun j hj=>GF.o j (j1 ((Cf.o.pt.lt j hj).1)))).mono (show w.heap.size<=B+1 by omega));have AT:=ae ((Cf.o.st.keep (fun j hj=>GF.o j (j1 ((Cf.o.st.lt j hj).1)))).mono (show w.heap.size<=B+1 by omega));go_wp2_with fail;refine bR (v:=.agg #[.bool true,.slice (some ⟨G,0,none⟩) 1 1,.slice none 0 0,.int .i64 0]) (by simp[results,acS,go_sem,z0,z1,z2,z3]) rfl ⟨by rw[HOV.o];exact⟨_,_,_,_,_,_,rfl,PL.o,AT.o⟩,HZ.o⟩
