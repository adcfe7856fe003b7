import Derived.Test.YtdadoignenffgaaGreatDoorEbAllG28
import Derived.Test.YtdadoignenffgaaGreatDoorEbAllG47
import Derived.Test.YtdadoignenffgaaGreatDoorEbAllG32
import Derived.Test.YtdadoignenffgaaGreatDoorEbAllG8
set_option linter.unusedVariables false
set_option linter.unusedSimpArgs false
namespace Go.Proofs.YtdadoignenffgaaGreatDoor
set_option maxHeartbeats 16000000
set_option maxRecDepth 100000
open Go.RowKit
theorem o4.litN(w:World)(base:Nat)(x:Int)(hb:base<=w.heap.size):o4 (w.alloc (.cells #[.int .i64 x] 3)) base (.slice (some ⟨w.heap.size,0,none⟩) 1 1) [x] :=
 aaY w #[.int .i64 x] 1 hb (by simp[maxLen]) rfl
theorem o0.Ra(w:World)(base:Nat)(x y:Int)(hb:base<=w.heap.size):o0 (w.alloc (.cells #[.int .i64 x,.int .i64 y] 62)) base (.slice (some ⟨w.heap.size,0,none⟩) 1 1) [(x,y)] :=
 ⟨by simp[Cm],.inr ⟨w.heap.size,1,_,rfl,hb,L' w _,ao _,by decide,rfl,by simp[Cm]⟩⟩
theorem oC{w:World}{p:Int}{a:j6}{n cap:Nat}{V:j7}(h:Ints w a n cap V):
 Calls Tryz.prog 28 #[pair p a n cap] w fun e w'=>gq w' w.heap.size e (CN p V)/\Ext w w':=by
 obtain⟨W,hW⟩:=b9 ((w.alloc (.cells #[.int .i64 p,.slice a n cap] 32)).alloc (.cells #[.bool false,.slice none 0 0,.slice none 0 0,.int .i64 0] 44));have FL:W.heap.size=w.heap.size+2:=by rw[hW];simp
 have hX:Ext w W:=by rw[hW];exact(Ext.alloc _ _).trans (Ext.alloc _ _)
 have zF:=ae (show W.heap[w.heap.size+1]?=some (.cells #[.bool false,.slice none 0 0,.slice none 0 0,.int .i64 0] 44 (0,0))by rw[hW];exact ai _ _ _ e8);have EC:=ae (show W.cell? ⟨w.heap.size,0,none⟩=some (.int .i64 p)by rw[hW];exact Ext.j9 (Ext.alloc _ _) e8);have EN:=ae (show W.cell? ⟨w.heap.size,1,none⟩=some (.slice a n cap)by rw[hW];exact Ext.j9 (Ext.alloc _ _) e8);have HI:=ae (h.ext hX);have HX:=ae hX;have AM:=ae h.hlen;have Sq:=ae (ed (p:=p) HI.o);have Bc:=ae (fun(w':World) (hx:Ext W w') (v0 v1 v2 v3:Value)=>BZ (Q4 ((hx.block _ e7).trans zF.o) v0 v1 v2 v3).1);have IS:=ae (fun(w':World) (hx:Ext W w') (v0 v1 v2 v3:Value)=>SK (w:=w) (r:=w.heap.size+1) (HX.o.trans hx) (Cj _) v0 v1 v2 v3);have P6:=ae (fun(w':World) (hx:Ext W w') (v0 v1 v2 v3:Value)=>(Q4 ((hx.block (w.heap.size+1) e7).trans zF.o) v0 v1 v2 v3).2);have Gq:=ae (fun(w':World) (hx:Ext W w')=>BZ ((hx.block _ e7).trans zF.o));clear h hX;cases hgo:aL p V
 ·rw[hgo]at Sq;have HN:=ae (show CN p V=DV.no by unfold CN;rw[hgo];rfl);clear hgo;go_enter aeY,aeM
  go_wp2_with fail;rw[<-hW];refine Sq.o.mono ?_;rintro e w1 ⟨rfl,hx⟩;obtain⟨q0,q1,q2,q3,qf⟩:=Gq.o w1 hx;obtain⟨z0,z1,z2,z3,_⟩:=Bc.o w1 hx (.bool false) (.slice none 0 0) (.slice none 0 0) (.int .i64 0);have HZ:=ae (IS.o w1 hx (.bool false) (.slice none 0 0) (.slice none 0 0) (.int .i64 0));clear hx hW;go_wp2_with fail;refine bR (v:=.agg #[.bool false,.slice none 0 0,.slice none 0 0,.int .i64 0]) (by simp[results,ace,go_sem,z0,z1,z2,z3]) rfl ⟨by rw[HN.o];exact gq.no _ _,HZ.o⟩
 ·rw[hgo]at Sq;obtain⟨h1,Vg,zR,C4,EX,hV⟩:=iL hgo;obtain⟨q,hq⟩:=b9 p.toNat;rw[<-hq]at zR C4 EX;have Ss:=ae hgo;have B1:1<=n:=by rw[<-AM.o];exact h1
  have Ft:n<=32:=by rw[<-AM.o];exact Vg
  obtain⟨g,hg⟩:=b9 (bY p V);have HG:=ae hg;have Gv:=ae (fun(w':World) (hx:Ext W w')=>lh (p:=p) (HI.o.ext hx));simp only[<-hg]at Gv;clear hgo hq hV h1 Vg hg;by_cases Dt:p=1
  ·subst Dt;clear zR;have HN:=ae (show CN 1 V=⟨true,[(g,1)],[],0⟩by unfold CN;rw[hI Ss.o,hI j0,<-HG.o]);go_enter aeY,aeM
   go_wp2_with fail;rw[<-hW];refine Sq.o.mono ?_;rintro e w1 ⟨rfl,hx⟩;have c0:=hx.j9 EC.o;have c1:=hx.j9 EN.o;have X1:=ae hx;clear hx hW;go_wp2_with fail;refine(Gv.o _ X1.o).mono ?_;rintro e w2 ⟨rfl,zJ⟩;go_wp2_with fail;refine(cX g _).mono ?_;rintro e w3 ⟨rfl,zm⟩;have zX:=zJ.trans zm;have X4:=ae (X1.o.trans (zX.trans (Ext.alloc w3 (.cells #[.int .i64 g,.int .i64 1] 62))));obtain⟨q0,q1,q2,q3,qf⟩:=Gq.o _ X4.o;obtain⟨z0,z1,z2,z3,_⟩:=Bc.o _ X4.o (.bool true) (.slice (some ⟨w3.heap.size,0,none⟩) 1 1) (.slice none 0 0) (.int .i64 0);have HZ:=ae (IS.o _ X4.o (.bool true) (.slice (some ⟨w3.heap.size,0,none⟩) 1 1) (.slice none 0 0) (.int .i64 0));have GF:=ae (P6.o _ X4.o (.bool true) (.slice (some ⟨w3.heap.size,0,none⟩) 1 1) (.slice none 0 0) (.int .i64 0));have F6:=(X1.o.trans zX).size;have PL:=ae ((o0.Ra w3 w.heap.size g 1 e7).keep (fun k hk=>GF.o k (by simp only[Value.ownBlock,bA]at hk;omega)));clear zJ zm zX c0 c1;go_wp2_with fail;refine bR (v:=.agg #[.bool true,.slice (some ⟨w3.heap.size,0,none⟩) 1 1,.slice none 0 0,.int .i64 0]) (by simp[results,ace,go_sem,z0,z1,z2,z3]) rfl ⟨by rw[HN.o];exact⟨_,_,_,_,_,_,rfl,PL.o,zd.nil _ _ _ _⟩,HZ.o⟩
  ·subst zR;have Ux:2<=(q:Int):=by omega
   have SZ:((q:Int) == 1)=false:=by simp[Dt]
   have Kj:IntKind.i64.wrap ((n:Int)-1)=(n:Int)-1:=by rw[cn];omega
   have HN:=ae (wF Ss.o Ux);obtain⟨o,ho⟩:=b9 (CN (q:Int) V);rw[<-ho]at HN⊢;have HQ:=ae Dt;clear ho Dt Ux;go_enter aeY,aeM
   go_wp2_with fail;rw[<-hW];refine Sq.o.mono ?_;rintro e w1 ⟨rfl,hx⟩;have c0:=hx.j9 EC.o;have c1:=hx.j9 EN.o;have X1:=ae hx;obtain⟨w2,Ch⟩:=b9 (w1.alloc (.cells #[.bool true,.slice none 0 0,.slice none 0 0,.int .i64 0] 44));have AD:w2.heap[w1.heap.size]?=some (.cells #[.bool true,.slice none 0 0,.slice none 0 0,.int .i64 0] 44 (0,0)):=by rw[Ch];exact ai _ _ _ rfl
   have zJ:Ext w1 w2:=by rw[Ch];exact Ext.alloc _ _
   have X2:=ae (hx.trans zJ);have OP:=hx.size;clear hx hW;go_upto_region 6 with fail;rw[<-Ch];clear Ch;have d0:=zJ.j9 c0;have d1:=zJ.j9 c1;clear c0 c1 zJ;generalize w1.heap.size=B at AD OP⊢
   have Tu:=ae (show Aq W (w2.alloc (.cells #[.int .i64 ((n:Int)-1)] 3)) B (.slice none 0 0) (.slice none 0 0) (.slice (some ⟨w2.heap.size,0,none⟩) 1 1) [] [] (((n:Int)-1)::[].map fun f:Int×Int×Int=>f.1) 0 from
    ⟨(Ext.alloc _ _).blk AD,o0.nil _ _,zd.nil _ _ _ _,o4.litN _ _ _ (j1 (mr AD)),X2.o.trans (Ext.alloc _ _),OP⟩)
   clear AD;go_wp2_with fail
   go_loopg [4] ((AE V []).length+1) (fun gk ff wr=>∃(k:Nat) (L:j2) (pt:j4) (vp vs:Value) (aF:j6) (nF cF:Nat),b7 (gk+k=(AE V []).length+1)/\ff=.slice aF nF cF/\b7 (Aq W wr B vp vs (.slice aF nF cF) pt L (((n:Int)-1)::L.map fun f=>f.1) k)/\b7 ((AE V L).length+1<=gk)/\b7 (∀f∈L,f.1<=1000)/\b7 (L.length<=32*k)/\b7 (Fp (q:Int) V gk pt L k=o))
   case atStart=>exact⟨0,[],[],_,_,_,_,_,ae e7,rfl,Tu,ae (ao _),ae (fun f hf=>by cases hf),ae e8,HN⟩
   case round =>
    obtain⟨g1,o7⟩:=b9 gk;subst o7;obtain⟨o6,o5⟩:=b9 wr;subst o5;obtain⟨k,L,pt,vp,vs,aF,nF,cF,HK,rfl,HO,QE,AO,AN,KI⟩:=hrel;obtain⟨aP,nP,cP,rfl,HNP⟩:=HO.o.pt.var;obtain⟨aS,nS,cS,rfl,Sk⟩:=HO.o.st.var;have HFR0:=ae (show(AE V []).length<=32 by have h1:(AE V []).length<=V.length-2:=dU [] (V.length-2);have h2:=AM.o;omega);have hk33:k<=33:=by have h1:=HK.o;have h2:=HFR0.o;omega
    have hnS:nS<=1100:=by rw[<-Sk.o];have:=AN.o;omega
    have hnF:nF<=1101:=by
     have h1:=HO.o.fx.ints.hlen;simp only[OX,zo]at h1;have:=AN.o;omega
    obtain⟨rk,Uv⟩:=b9 (fp (q:Int) (((n:Int)-1)::L.map fun f=>f.1));have Mw:=ae (fun(w':World) (hx:Ext o6 w')=>NP (n:=(q:Int)) (HO.o.fx.ext hx).ints (O8 (V:=V) e7 AO.o) e7);simp only[<-Uv]at Mw;have hrle:rk<=(q:Int):=by rw[Uv];exact No e7 _
    have HDN:=ae (show ev (q:Int) V L=decide (rk=(q:Int))by rw[Uv];unfold ev;rw[AM.o]);have c0:=HO.o.ext.j9 EC.o;have hk:Ext o6 o6.drew:=Ext.drew o6;clear Uv;by_cases RM:rk<(q:Int)
    ·have L9:=ae (show ev (q:Int) V L=false by rw[HDN.o];exact u' e7);have hdd:decide (rk<(q:Int))=true:=z' RM;go_wp2_with fail;refine rN (S:=(fun w'=>w'.cell? ⟨w.heap.size,0,none⟩=some (.int .i64 (q:Int))/\Ext o6 w')) e9 ?_ (fun l7=>?_)
     ·exact⟨hk.j9 c0,hk⟩
     refine tk 0 ?_;refine tk 1 ?_;refine tk 2 ?_;refine tk 4 ?_;refine tk 5 ?_;refine rd (i:=3) (h:=fun K hK=>?_);go_simp
     (go_at_call 79;refine(Mw.o _ hk).mono ?_;rintro e w3 ⟨rfl,zm⟩;have hk:=hk.trans zm)
     go_wp2_with fail;refine hK.out _ _ ?_ (fun l7=>?_)
     ·exact⟨hk.j9 c0,hk⟩
     clear hK K
     try simp only[Act.put,sA,sB,sC]
     refine tk 6 ?_;refine Gh e9 ?_ _;have zi:=ae (HO.o.grow hk);have X3:=ae zi.o.ext;obtain⟨b0,b1,b2,b3,bf⟩:=BZ zi.o.box;have e0:=X3.o.j9 EC.o;have e1:=X3.o.j9 EN.o;have Hj:=ae (xN (p:=(q:Int)) (HI.o.ext X3.o) zi.o.st.JI e7);obtain⟨ok,zO⟩:=b9 (Al (q:Int) V L);rw[<-zO]at Hj;have A5:=ae zO;clear hk c0 l7 zO;go_wp2_with fail;refine Hj.o.mono ?_;rintro e w4 ⟨Lu,zX⟩;obtain⟨la,GP,GS,lb,GO,GR,lc,GN,GQ,rfl,Lz⟩:=Lu.lpc;unfold DD;obtain⟨w5,Hu⟩:=b9 (w4.alloc (bj la GP GS lb GO GR lc GN GQ));have AK:Ext w4 w5:=by rw[Hu];exact Ext.alloc _ _
     have K5:=ae (zX.trans AK);have X5:=ae (X3.o.trans K5.o);go_upto_region 9 with fail;rw[<-Hu];cases ok
     ·have FE:=ae (show o=DV.no by
       rw[<-KI.o]
       exact vk L9.o (fun h=>by rw[<-A5.o]at h;exact Bool.noConfusion h.1))
      obtain⟨q0,q1,q2,q3,qf⟩:=Gq.o w5 X5.o;obtain⟨z0,z1,z2,z3,_⟩:=Bc.o w5 X5.o (.bool false) (.slice none 0 0) (.slice none 0 0) (.int .i64 0);have HZ:=ae (IS.o w5 X5.o (.bool false) (.slice none 0 0) (.slice none 0 0) (.int .i64 0));clear Hu AK zX Lz Lu b0 b1 b2 b3 bf e0 e1;go_wp2_with fail;refine bR (v:=.agg #[.bool false,.slice none 0 0,.slice none 0 0,.int .i64 0]) (by simp[results,ace,go_sem,z0,z1,z2,z3]) rfl ⟨by rw[FE.o];exact gq.no _ _,HZ.o⟩
     ·obtain⟨E1,E2,E3⟩:=pY A5.o.symm;rw[E1,E2,E3,CI]at Lz;have KG:=qv (Lz.ext AK);obtain⟨r,hr⟩:=b9 (ci q V L);rw[show bD ar (stA q V L) (KR q) (Fc V L)=r from hr.symm]at KG;have Gn:=ae KG;have C0:=ae hr;have t0:=am (show w5.heap[w4.heap.size]?=some (.cells #[.slice la GP GS,.slice lb GO GR,.slice lc GN GQ] 68 (0,0))by rw[Hu];exact ai _ _ _ rfl);have t1:=aD (show w5.heap[w4.heap.size]?=some (.cells #[.slice la GP GS,.slice lb GO GR,.slice lc GN GQ] 68 (0,0))by rw[Hu];exact ai _ _ _ rfl);have t2:=aG (show w5.heap[w4.heap.size]?=some (.cells #[.slice la GP GS,.slice lb GO GR,.slice lc GN GQ] 68 (0,0))by rw[Hu];exact ai _ _ _ rfl);have Ei:=ae K5.o.size;clear E1 E2 E3 KG hr Hu AK zX Lz Lu b0 b1 b2 b3 bf e0 e1;go_wp2_with fail;refine Gn.o.mono ?_;rintro e w6 ⟨⟨xa,xn,xc,ya,yn,yc,ra,rn,rc,rfl,DH⟩,Ki⟩;obtain⟨w7,DE⟩:=b9 (w6.alloc (bX r xa xn xc ya yn yc ra rn rc));have Mj:Ext w6 w7:=by rw[DE];exact Ext.alloc _ _
      have K7:=ae ((K5.o.trans Ki).trans Mj);have X7:=ae (X3.o.trans K7.o);have A1:=ae ((DH.ext Mj).mono Ei.o);have Fb:=ae (show w7.heap[w6.heap.size]?=some (bX r xa xn xc ya yn yc ra rn rc)by rw[DE];exact ai _ _ _ rfl);have JP:=ae (show w3.heap.size<=w6.heap.size by have h1:=Ki.size;have h2:=Ei.o;omega)
      have VH:=ae (fun(hs:r.status=1)=>show(AE V L).length<=r.X.length/\r.Y.length=q+1/\o9 r.value=true/\∀k,k<r.Y.length->o9 (r.Y[k]?.getD (0,0))=true by
       have:=qI (p:=(q:Int)) A5.o.symm (by rw[CI,<-C0.o];exact hs);rw[CI,<-C0.o]at this
       exact this)
      have PQ:=ae (fun(hs:r.status=1) (f:Nat)=>show Fp (q:Int) V (f+1) pt L k=Fp (q:Int) V f (ptN q r) (dE V L r) (k+1)/\(AE V (dE V L r)).length<(AE V L).length by
       have h1:=yi (f:=f) (k:=k) (pt:=pt) L9.o A5.o.symm (by rw[CI,<-C0.o];exact hs);have h2:=oO A5.o.symm (by rw[CI,<-C0.o];exact hs);rw[CI,<-C0.o]at h1 h2
       exact⟨h1,h2⟩)
      obtain⟨rs,Q,O,U,⟨I,J⟩,Z⟩:=r;unfold CC;go_upto_region 12 with fail;rw[<-DE];clear DH Ki Mj DE t0 t1 t2;generalize w6.heap.size=G at Fb JP⊢;have LH:=mr Fb.o;obtain⟨l0,l1,l2,l3,l4,l5,l6,lf⟩:=zN Fb.o
      try simp only at l0 l1 l2 l3 l4 l5 l6
      by_cases hs:rs=1
      ·subst hs;obtain⟨Mi,Jk,EV,Ht⟩:=VH.o rfl
       try simp only at Mi Jk EV Ht
       have A4:=aQ EV
       try simp only at A4
       have Vw:=ae Mi;have Hi:=ae Jk;have Vv:=ae Ht;have Em:q<=yn:=by have h1:=A1.o.y.here.hlen;have h2:=Hi.o;(try simp only at h1);omega
       have Uc:(q:Int)<=(yc:Int):=by have h1:=A1.o.y.here.l8;omega
       have Xd:=ae (oI (A1.o.y.here.take Em) e7 (fun i=>by
        by_cases hi:i<q
        ·rw[aao,hI hi]
         show -9223372036854775807<=(O[i]?.getD (0,0)).1/\(O[i]?.getD (0,0)).1<=9223372036854775807;have:=aQ (Vv.o i (by rw[Hi.o];omega));omega
        ·rw[aao,hD hi];simp))
       have e0:=X7.o.j9 EC.o;have e1:=X7.o.j9 EN.o;clear Mi Jk EV Ht;go_wp2_with fail;refine Xd.o.mono ?_;rintro e w8 ⟨⟨v,rfl,ho⟩,SP⟩;obtain⟨a8,n8,p8,rfl,IL⟩:=ho.var;have J7:=ae (zi.o.grow (K7.o.trans SP));obtain⟨b0,b1,b2,b3,bf⟩:=BZ J7.o.box;have EI:=ae zi.o.lt;have HP8:=ae (ho.mono (show B+1<=w7.heap.size by have h1:=zi.o.lt;have h2:=K7.o.size;omega));have LS:=ae ((BD.refl w3.heap.size w7).ext SP);have PB:=ae SP;obtain⟨w9,SQ⟩:=b9 (w8.setCell ⟨B,1,none⟩ (.slice a8 n8 p8));have FR:=ae (J7.o.TS HP8.o);rw[<-SQ]at FR;have KH:=ae (LS.o.set (j:=1) EI.o (.slice a8 n8 p8));rw[<-SQ]at KH;clear ho SP;go_upto_region 15 with fail;rw[<-SQ];clear SQ b0 b1 b2 b3 bf e0 e1;obtain⟨k1,BR⟩:∃x:Int,x=(k:Int)+1:=⟨_,rfl⟩;have hwk:IntKind.i64.wrap ((k:Int)+1)=k1:=by rw[cn];omega
       have HK1:=ae (show k1=((k+1:Nat):Int)by omega);clear BR;obtain⟨b0,b1,b2,b3,bf⟩:=BZ FR.o.box;obtain⟨Ii,Rj⟩:=b9 (w9.setCell ⟨B,3,none⟩ (.int .i64 k1));have Cg:=ae (FR.o.Xq (k':=k+1) HK1.o);rw[<-Rj]at Cg;have JK:=ae (KH.o.set (j:=3) EI.o (.int .i64 k1));rw[<-Rj]at JK;go_upto_region 16 with fail;rw[<-Rj];clear Rj b0 b1 b2 b3 bf hwk;obtain⟨b0,b1,b2,b3,bf⟩:=BZ Cg.o.box;have e0:=Cg.o.ext.j9 EC.o;have e1:=Cg.o.ext.j9 EN.o;have Ff:3<=n:=by
        obtain⟨q',hq',Rv,hq5',hl',_⟩:=bQ Ss.o;have h4:=Lc (n:=q') (j1 HQ.o) hq5';have:=AM.o;omega
       have JR:=ae (iZ (q:Int) a n cap Ff e7 Cg.o.st.JI);go_wp2_with fail;refine JR.o.mono ?_;rintro e Hr ⟨⟨v,rfl,ho⟩,GW⟩;obtain⟨a11,m,c11,rfl,HM⟩:=ho.var;have L0:=ae (Cg.o.grow GW);have Hl:=ae (JK.o.ext GW);have P4:=ae (show aX L (n-2)=AE V L by unfold AE;rw[AM.o]);rw[P4.o]at ho HM;have Su:=ae (ho.mono (show w3.heap.size<=Ii.heap.size by have h1:=JK.o.size;have h2:=K7.o.size;omega));have Ty:=ae (Hl.o.on A1.o.x);have IU:=ae (Hl.o.blk JP.o Fb.o);have VS:=ae (Off.of (hi:=Hr.heap.size) zi.o.st.lt (ao _));have Tt:=ae (Off.of (hi:=Hr.heap.size) zi.o.fx.lt (ao _));have hmx:m<=xn:=by have h1:=Ty.o.here.hlen;have h2:=Vw.o;have h3:=HM.o;(try simp only at h1);omega
       have UC:m<=32:=by
        have h1:(AE V L).length<=V.length-2:=dU L (V.length-2);have h2:=AM.o;have h3:=HM.o;omega
       have VP:=ae (show(L++AZ (AE V L) ⟨1,Q,O,U,(I,J),Z⟩ 0)=L by rw[qH,ZR]);clear ho GW b0 b1 b2 b3 bf e0 e1 l0 l1 l2 l3 l4 l5 l6 lf;go_wp2_with fail
       go_loopg [4,67] m (fun gk ff ii wr=>∃(j:Nat) (vs':Value) (aF':j6) (nF' cF':Nat),b7 (gk+j=m)/\ff=.slice aF' nF' cF'/\ii=.int .i64 (j:Int)/\b7 (Aq W wr B (.slice a8 n8 p8) vs' (.slice aF' nF' cF') ((O.take q).map ze) (L++AZ (AE V L) ⟨1,Q,O,U,(I,J),Z⟩ j) (((n:Int)-1)::(L++AZ (AE V L) ⟨1,Q,O,U,(I,J),Z⟩ j).map fun f=>f.1) (k+1))/\b7 (BD w3.heap.size Hr wr)/\b7 (Off w3.heap.size Hr.heap.size vs')/\b7 (Off w3.heap.size Hr.heap.size (.slice aF' nF' cF')))
       case atStart=>exact⟨0,_,_,_,_,ae e7,rfl,rfl,ae (by rw[VP.o];exact L0.o),ae (BD.refl _ _),VS,Tt⟩
       case round =>
        obtain⟨g2,Am⟩:=b9 gk;subst Am;obtain⟨wr2,zx⟩:=b9 wr;subst zx;obtain⟨j,vs2,aF2,nF2,cF2,HJ,rfl,rfl,As,B6,VR,LY⟩:=hrel;obtain⟨aS2,nS2,cS2,rfl,HNS2⟩:=As.o.st.var;by_cases Ga:j<m
        ·have hjx:j<xn:=by omega
         obtain⟨fb,Gj,RK,UN⟩:=(B6.o.ints (ao _) Su.o).ints.at Ga;subst RK;obtain⟨xb,MI,x1,x2,Rh,Ud,hxc1,hxc2⟩:=(B6.o.on Ty.o).here.at hjx;subst Rh;obtain⟨l0,l1,l2,l3,l4,l5,l6,lf⟩:=zN (B6.o.blk JP.o IU.o)
         try simp only at l0 l1 l2 l3 l4 l5 l6 Ud
         obtain⟨s,hs⟩:=b9 ((AE V L)[j]?.getD 0);rw[<-hs]at UN;by_cases y9:0<x1
         ·have My:=ae (show(L++AZ (AE V L) ⟨1,Q,O,U,(I,J),Z⟩ j)++[(s,-I,J)]=L++AZ (AE V L) ⟨1,Q,O,U,(I,J),Z⟩ (j+1)by
           rw[jA,hI (by show 0<(Q[j]?.getD (0,0)).1;rw[Ud];exact y9),<-hs,N7])
          obtain⟨b0,b1,b2,b3,bf⟩:=BZ As.o.box
          have PR:=ae (show(L++AZ (AE V L) ⟨1,Q,O,U,(I,J),Z⟩ j).length<=2000 by
           rw[pk];have h1:=kp (AE V L) ⟨1,Q,O,U,(I,J),Z⟩ j;have h2:=AN.o
           omega)
          have Mc:=ae As.o.lt;clear hs;go_wp2_with fail;have Ax:Ext wr2 wr2.drew:=Ext.drew wr2;have k8:=ae (fun(w':World) (h:Ext wr2 w')=>(⟨h.j9 b2,h.j9 l4,h.j9 l5⟩:w'.cell? ⟨B,2,none⟩=some (.slice aS2 nS2 cS2)/\w'.cell? ⟨G,4,none⟩=some (.int .i64 I)/\w'.cell? ⟨G,5,none⟩=some (.int .i64 J)));refine dD (M:=[10]) (S:=fun w'=>w'.cell? ⟨B,2,none⟩=some (.slice aS2 nS2 cS2)/\w'.cell? ⟨G,4,none⟩=some (.int .i64 I)/\w'.cell? ⟨G,5,none⟩=some (.int .i64 J)) e9 ?_;have l7:=k8.o _ Ax;obtain⟨wd,hwd⟩:=b9 wr2.drew;rw[<-hwd]at Ax l7;rw[<-hwd];clear hwd;refine lp 0 ?_;refine ll 1 ?_;refine lp 2 ?_;refine lp 3 ?_;refine ll 4 ?_;refine bg (i:=5) (oi:=?_) ?_ ?_ ?_ (fun K hK=>?_);rotate_left
          ·simp only[gA,gB,gC];rfl
          ·kernel_rfl
          ·kernel_rfl
          go_simp;go_at_call 74;refine(eo I J _ e7 e7).mono ?_;rintro e EP ⟨rfl,B8⟩;have Ax:Ext wr2 EP:=Ax.trans B8;have Oe:=Ax.size;go_wp2_with fail;refine hK.out _ _ (fun _=>k8.o _ Ax) ?_;have l7:=k8.o _ Ax;clear hK K
          try simp only[Act.put,sA,sB,sC]
          refine lp 6 ?_;refine bg (i:=7) (oi:=?_) ?_ ?_ ?_ (fun K hK=>?_);rotate_left
          ·simp only[gA,gB,gC];rfl
          ·kernel_rfl
          ·kernel_rfl
          go_simp;refine hK.out _ _ (fun _=>k8.o _ (Ax.trans (Ext.alloc _ _))) ?_;clear hK K
          try simp only[Act.put,sA,sB,sC]
          refine bg (i:=8) (oi:=?_) ?_ ?_ ?_ (fun K hK=>?_);rotate_left
          ·simp only[gA,gB,gC];rfl
          ·kernel_rfl
          ·kernel_rfl
          refine fS BM Tryz.FK rfl abD (by decide) _ _ j0 (B+1) (.slice aS2 nS2 cS2) _ j0 (As.o.st.ext (Ax.trans (Ext.alloc _ _))) _ 1 1 [(s,-I,J)] j0 (BU.lit BM _ _ _ 1 j0 _ j0 _ j0 e7) (j1 PR.o) (by have h2:=Mc.o;simp;omega) ?_;intro v13 Mh ho hg k9;have Qa:=ae ((hg.block B (by have h2:=Mc.o;simp;omega) (fun e=>by have:=(As.o.st.lt B e.symm).1;omega)).trans ((Ax.trans (Ext.alloc _ _)).blk As.o.box));have Hk:=ae ((B6.o.ext (Ax.trans (Ext.alloc _ _))).grown hg VR.o);have L2:=ae (VR.o.near k9 (by have h1:=B6.o.size;simp;omega));obtain⟨Qq,n13,c13,rfl,Tv⟩:=ho.var;have CT:=ae (As.o.Tj (Ax.trans (Ext.alloc _ _)) hg ho);obtain⟨c0,c1,c2,c3,cf⟩:=BZ Qa.o;obtain⟨m0,m1,m2,m3,m4,m5,m6,mf⟩:=zN (Hk.o.blk JP.o IU.o)
          (try simp only at m0 m1 m2 m3 m4 m5 m6)
          clear ho hg k9;refine hK.out _ _ (fun _=>JH c2 (JH m4 m5)) ?_;have l7:=JH c2 (JH m4 m5);clear hK K
          try simp only[Act.put,sA,sB,sC]
          refine lp 9 ?_;refine dM (i:=10) (oi:=?_) (w':=?_) ?_ ?_ ?_ ?_ ?_ ?_ ?_;rotate_left 2
          ·simp only[gA,gB,gC];rfl
          ·kernel_rfl
          ·kernel_rfl
          ·exact EE e9
          ·rfl
          ·go_simp;(try with_reducible rfl)
          try simp only[Act.put,sA,sB,sC]
          refine dV e9 ?_ _;rw[My.o]at CT;obtain⟨TO,F2⟩:=b9 (Mh.setCell ⟨B,2,none⟩ (.slice Qq n13 c13));have IF:=ae (Hk.o.set (j:=2) EI.o (.slice Qq n13 c13));rw[<-F2]at CT IF;go_upto_region 21 with fail;rw[<-F2];clear F2 c0 c1 c2 c3 cf m0 m1 m2 m3 m4 m5 m6 mf b0 b1 b2 b3 bf l0 l1 l2 l3 l4 l5 l6 lf l7 Ax k8;have HB14:=ae CT.o.lt;have Bu:=ae (show(((n:Int)-1)::(L++AZ (AE V L) ⟨1,Q,O,U,(I,J),Z⟩ j).map fun f=>f.1).length<=2001 by rw[OX,zo];have:=PR.o;omega)
          have HFE:=ae (show(((n:Int)-1)::(L++AZ (AE V L) ⟨1,Q,O,U,(I,J),Z⟩ j).map fun f=>f.1)++[s]=((n:Int)-1)::(L++AZ (AE V L) ⟨1,Q,O,U,(I,J),Z⟩ (j+1)).map fun f=>f.1 by
           rw[<-My.o];exact uW _ _ (s,-I,J))
          go_wp2_with (first
           | (at_builtin;refine bu rfl _ _ rfl (B+1) (.slice aF2 nF2 cF2) _ rfl (CT.o.fx.ext (Ext.alloc _ _)) _ 1 _ [s] rfl (Ints.CL _ _ _ _ e8) (j1 Bu.o) (by have h2:=HB14.o;simp;omega) ?_;intro v15 Dl ho hg k9;have HS15:=ae ((IF.o.ext (Ext.alloc _ _)).grown hg LY.o);have HN15:=ae (LY.o.near k9 (by have h1:=IF.o.size;simp;omega));obtain⟨Vq,n15,c15,rfl,HNN15⟩:=ho.var;have E':=ae (CT.o.Zq (Ext.alloc _ _) hg ho);clear ho hg k9))
          rw[HFE.o]at E'
          go_roundg (g2-1)
          case measure=>have:=HJ.o;omega
          case rel=>exact⟨j+1,_,_,_,_,ae (j1 HJ.o),rfl,by go_num,E',HS15,L2,HN15⟩
         ·have My:=ae (show(L++AZ (AE V L) ⟨1,Q,O,U,(I,J),Z⟩ j)=L++AZ (AE V L) ⟨1,Q,O,U,(I,J),Z⟩ (j+1)by
           rw[jA,hD (by show¬0<(Q[j]?.getD (0,0)).1;rw[Ud];exact y9),ZR])
          clear hs;go_wp2_with fail
          go_roundg (g2-1)
          case measure=>have:=HJ.o;omega
          case rel=>exact⟨j+1,_,_,_,_,ae (j1 HJ.o),rfl,by go_num,ae (by rw[<-My.o];exact As.o),B6,VR,LY⟩
        ·have F':j=m:=by have:=HJ.o;omega
         have HE:=ae (show L++AZ (AE V L) ⟨1,Q,O,U,(I,J),Z⟩ j=dE V L ⟨1,Q,O,U,(I,J),Z⟩by unfold dE;rw[HM.o,F']);rw[HE.o]at As;have FT:=ae (vh (V:=V) (L:=L) (r:=⟨1,Q,O,U,(I,J),Z⟩) (k:=k) (by rw[AM.o];exact Ft) AO.o AN.o);have JM:=ae (PQ.o trivial (g1-1));have JQ:=ae (show g1-1+1=g1 by have:=QE.o;omega);subst F';go_wp2_with fail
         go_roundg (g1-1)
         case measure=>have:=QE.o;omega
         case rel=>exact⟨k+1,dE V L ⟨1,Q,O,U,(I,J),Z⟩,_,_,_,_,_,_,ae (by have h1:=HK.o;have h2:=QE.o;omega),rfl,As,ae (by have h1:=JM.o.2;have h2:=QE.o;omega),ae FT.o.1,ae FT.o.2,ae (by have h1:=JM.o.1;rw[JQ.o]at h1;exact h1.symm.trans KI.o)⟩
      ·have FE:=ae (show o=DV.no by
        rw[<-KI.o];refine vk L9.o (fun h=>hs ?_);have:=h.2;rw[CI,<-C0.o]at this
        exact this)
       have Ec:(rs != 1)=true:=by simp[hs]
       obtain⟨q0,q1,q2,q3,qf⟩:=Gq.o w7 X7.o;obtain⟨z0,z1,z2,z3,_⟩:=Bc.o w7 X7.o (.bool false) (.slice none 0 0) (.slice none 0 0) (.int .i64 0);have HZ:=ae (IS.o w7 X7.o (.bool false) (.slice none 0 0) (.slice none 0 0) (.int .i64 0));go_wp2_with fail;refine bR (v:=.agg #[.bool false,.slice none 0 0,.slice none 0 0,.int .i64 0]) (by simp[results,ace,go_sem,z0,z1,z2,z3]) rfl ⟨by rw[FE.o];exact gq.no _ _,HZ.o⟩
    ·have Sx:=ae (show ev (q:Int) V L=true by rw[HDN.o];exact z' e7);have hdd:decide (rk<(q:Int))=false:=u' RM;go_wp2_with fail;refine rN (S:=(fun w'=>w'.cell? ⟨w.heap.size,0,none⟩=some (.int .i64 (q:Int))/\Ext o6 w')) e9 ?_ (fun l7=>?_)
     ·exact⟨hk.j9 c0,hk⟩
     refine tk 0 ?_;refine tk 1 ?_;refine tk 2 ?_;refine tk 4 ?_;refine tk 5 ?_;refine rd (i:=3) (h:=fun K hK=>?_);go_simp
     (go_at_call 79;refine(Mw.o _ hk).mono ?_;rintro e w3 ⟨rfl,zm⟩;have hk:=hk.trans zm)
     go_wp2_with fail;refine hK.out _ _ ?_ (fun l7=>?_)
     ·exact⟨hk.j9 c0,hk⟩
     clear hK K
     try simp only[Act.put,sA,sB,sC]
     refine tk 6 ?_;refine Gh e9 ?_ _;have zi:=ae (HO.o.grow hk);obtain⟨b0,b1,b2,b3,bf⟩:=BZ zi.o.box;have X3:=ae zi.o.ext;obtain⟨q0,q1,q2,q3,qf⟩:=Gq.o w3 X3.o;obtain⟨z0,z1,z2,z3,_⟩:=Bc.o w3 X3.o (.bool true) (.slice aP nP cP) (.slice aS nS cS) (.int .i64 (k:Int));have HZ:=ae (IS.o w3 X3.o (.bool true) (.slice aP nP cP) (.slice aS nS cS) (.int .i64 (k:Int)));have GF:=ae (P6.o w3 X3.o (.bool true) (.slice aP nP cP) (.slice aS nS cS) (.int .i64 (k:Int)));have HR:=ae (show o=⟨true,pt,L,k⟩by rw[<-KI.o];exact yh Sx.o);have PL:=ae ((zi.o.pt.keep (fun j hj=>GF.o j (j1 ((zi.o.pt.lt j hj).1)))).mono (show w.heap.size<=B+1 by omega));have AT:=ae ((zi.o.st.keep (fun j hj=>GF.o j (j1 ((zi.o.st.lt j hj).1)))).mono (show w.heap.size<=B+1 by omega));clear hk c0 l7;go_wp2_with fail;refine bR (v:=.agg #[.bool true,.slice aP nP cP,.slice aS nS cS,.int .i64 (k:Int)]) (by simp[results,ace,go_sem,z0,z1,z2,z3]) rfl ⟨by rw[HR.o];exact⟨_,_,_,_,_,_,rfl,PL.o,AT.o⟩,HZ.o⟩
