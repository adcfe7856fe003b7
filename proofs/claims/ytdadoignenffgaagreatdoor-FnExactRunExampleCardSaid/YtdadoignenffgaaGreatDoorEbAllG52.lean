import Derived.Test.YtdadoignenffgaaGreatDoorEbAllG12
import Derived.Test.YtdadoignenffgaaGreatDoorEbAllG13
import Derived.Test.YtdadoignenffgaaGreatDoorEbAllG47
import Derived.Test.YtdadoignenffgaaGreatDoorEbAllG15
import Derived.Test.YtdadoignenffgaaGreatDoorEbAllG3
set_option linter.unusedVariables false
set_option linter.unusedSimpArgs false
namespace Go.Proofs.YtdadoignenffgaaGreatDoor
variable{w:World}
set_option maxHeartbeats 16000000
set_option maxRecDepth 100000
open Go.RowKit
def em(ok:Bool)(g:Int)(r:BQ):Int:=if ok=false then 0 else if r.status≠1 then 3 else if 0<zV (ze r.value) (g,1) then 2 else if((dX g r).2&&(iB g r).2)=true then 1 else 3
def eL(ok:Bool)(g:Int)(r:BQ):Int:=if ok=false then 0 else if r.status≠1 then 3 else if(dX g r).2=false then 3 else if(dX g r).1.1<0 then 2 else if(iB g r).2=true then 1 else 3
def CoR(w:World)(base:Nat)(e:Ending)(code:Int)(pt:j4):Prop :=
 ∃pa pn pc wa wn wc,e=.returned (.agg #[.int .i64 code,.slice pa pn pc,.slice wa wn wc])/\(code=1->o0 w base (.slice pa pn pc) pt)
theorem jY{g:Nat}{a b c:Value}{t:TypeId}(hb:w.heap[g]?=some (.cells #[a,b,c] t (0,0))):
 w.cell? ⟨g,0,none⟩=some a/\w.cell? ⟨g,1,none⟩=some b/\w.cell? ⟨g,2,none⟩=some c/\∀k,w.frozen? ⟨g,k,none⟩=false:=by
 refine⟨?_,?_,?_,fun k=>sd w g k _ _ hb⟩<;>rw[tn w g _ _ _ _ hb]<;>rfl
theorem uT{W:World}{r:Nat}{x0 x1 x2:Value}{t:TypeId}(hb:W.heap[r]?=some (.cells #[x0,x1,x2] t (0,0)))(hX:Ext w W)(hr:w.heap.size<=r)(v0 v1 v2:Value):
 Ext w (((W.setCell ⟨r,0,none⟩ v0).setCell ⟨r,1,none⟩ v1).setCell ⟨r,2,none⟩ v2)/\(((W.setCell ⟨r,0,none⟩ v0).setCell ⟨r,1,none⟩ v1).setCell ⟨r,2,none⟩ v2).cell? ⟨r,0,none⟩=some v0/\(((W.setCell ⟨r,0,none⟩ v0).setCell ⟨r,1,none⟩ v1).setCell ⟨r,2,none⟩ v2).cell? ⟨r,1,none⟩=some v1/\(((W.setCell ⟨r,0,none⟩ v0).setCell ⟨r,1,none⟩ v1).setCell ⟨r,2,none⟩ v2).cell? ⟨r,2,none⟩=some v2 /\
  ∀b,b≠r->(((W.setCell ⟨r,0,none⟩ v0).setCell ⟨r,1,none⟩ v1).setCell ⟨r,2,none⟩ v2).heap[b]?=W.heap[b]?:=by
 have h1:=ta W r 0 _ t v0 hb;have h2:=ta _ r 1 _ t v1 h1;have h3:=ta _ r 2 _ t v2 h2;obtain⟨c0,c1,c2,_⟩:=jY (a:=v0) (b:=v1) (c:=v2) h3;exact⟨((hX.setCell (p:=⟨r,0,none⟩) hr _).setCell (p:=⟨r,1,none⟩) hr _).setCell (p:=⟨r,2,none⟩) hr _,c0,c1,c2,fun b AD=>(bB _ _ _ _ AD).trans ((bB _ _ _ _ AD).trans (bB _ _ _ _ AD))⟩
theorem iU{V:j7}(hb:∀x∈V,-500<=x/\x<=500)(k:Nat):-500<=V[k]?.getD 0/\V[k]?.getD 0<=500:=by
 by_cases h:k<V.length
 ·rw[bk h];exact hb _ (vl h)
 ·rw[G4 e7];simp
theorem wu{p:Int}{a:j6}{n cap:Nat}{V:j7}(h:Ints w a n cap V):
 Calls Tryz.prog 26 #[pair p a n cap] w fun e w'=>CoR w' w.heap.size e (em (aL p V) (bY p V) (bD ar (cV p.toNat n) (dk p.toNat) (bG V))) (Wf (bY p V) (bD ar (cV p.toNat n) (dk p.toNat) (bG V)))/\Ext w w':=by
 obtain⟨W,hW⟩:=b9 ((w.alloc (.cells #[.int .i64 p,.slice a n cap] 32)).alloc (.cells #[.int .i64 0,.slice none 0 0,.slice none 0 0] 39));have FL:W.heap.size=w.heap.size+2:=by rw[hW];simp
 have hX:Ext w W:=by rw[hW];exact(Ext.alloc _ _).trans (Ext.alloc _ _)
 have zF:=ae (show W.heap[w.heap.size+1]?=some (.cells #[.int .i64 0,.slice none 0 0,.slice none 0 0] 39 (0,0))by rw[hW];exact ai _ _ _ e8);have EC:=ae (show W.cell? ⟨w.heap.size,0,none⟩=some (.int .i64 p)by rw[hW];exact Ext.j9 (Ext.alloc _ _) e8);have EN:=ae (show W.cell? ⟨w.heap.size,1,none⟩=some (.slice a n cap)by rw[hW];exact Ext.j9 (Ext.alloc _ _) e8);have HI:=ae (h.ext hX);have HX:=ae hX;have EI:=ae (sf (p:=p) HI.o);obtain⟨g,Fh⟩:=b9 (bY p V);obtain⟨r,A'⟩:=b9 (bD ar (cV p.toNat n) (dk p.toNat) (bG V));have HG:=ae Fh;have C0:=ae A';rw[<-Fh,<-A'];have Bc:=ae (fun(w':World) (hx:Ext W w') (code:Int) (x1 x2:Value)=>uT (w:=w) ((hx.block _ e7).trans zF.o) (HX.o.trans hx) (Cj _) (.int .i64 code) x1 x2);have Gq:=ae (fun(w':World) (hx:Ext W w')=>jY ((hx.block _ e7).trans zF.o));clear h hX Fh A';cases hgo:aL p V
 ·rw[hgo]at EI;have HC:=ae (show em false g r=0 from rfl);clear hgo;go_enter Tryz.func26,Tryz.ntmps26
  go_wp2_with fail;rw[<-hW];refine EI.o.mono ?_;rintro e w1 ⟨⟨la,GP,GS,lb,GO,GR,lc,GN,GQ,rfl,_⟩,hx⟩;unfold DD;obtain⟨w2,Ch⟩:=b9 (w1.alloc (bj la GP GS lb GO GR lc GN GQ));have X2:Ext W w2:=by rw[Ch];exact hx.trans (Ext.alloc _ _)
  obtain⟨q0,q1,q2,qf⟩:=Gq.o w2 X2;obtain⟨z,z0,z1,z2,_⟩:=Bc.o w2 X2 0 (.slice none 0 0) (.slice none 0 0);have HZ:=ae z;go_upto_region 2 with fail;rw[<-Ch];clear hx Ch hW z;go_wp2_with fail;refine bR (v:=.agg #[.int .i64 0,.slice none 0 0,.slice none 0 0]) (by simp[results,abM,go_sem,z0,z1,z2]) rfl ⟨⟨_,_,_,_,_,_,by rw[HC.o],fun h=>by rw[HC.o]at h;cases h⟩,HZ.o⟩
 ·rw[hgo]at EI;obtain⟨q,zR,C4,EX,hVl,_,Qo⟩:=bQ hgo;have B2:-500<=g/\g<=500:=by rw[HG.o,ig hgo];exact iU Qo _
  have Ay:=ae zR;clear hgo hVl Qo zR;go_enter Tryz.func26,Tryz.ntmps26
  go_wp2_with fail;rw[<-hW];refine EI.o.mono ?_;rintro e w1 ⟨⟨la,GP,GS,lb,GO,GR,lc,GN,GQ,rfl,Lz⟩,hx⟩;unfold DD;obtain⟨w2,Ch⟩:=b9 (w1.alloc (bj la GP GS lb GO GR lc GN GQ));have zJ:Ext w1 w2:=by rw[Ch];exact Ext.alloc _ _
  have X2:=ae (hx.trans zJ);have Gn:=ae (qv ((Lz rfl).ext zJ));rw[<-C0.o]at Gn;have t0:=am (show w2.heap[w1.heap.size]?=some (.cells #[.slice la GP GS,.slice lb GO GR,.slice lc GN GQ] 68 (0,0))by rw[Ch];exact ai _ _ _ rfl);have t1:=aD (show w2.heap[w1.heap.size]?=some (.cells #[.slice la GP GS,.slice lb GO GR,.slice lc GN GQ] 68 (0,0))by rw[Ch];exact ai _ _ _ rfl);have t2:=aG (show w2.heap[w1.heap.size]?=some (.cells #[.slice la GP GS,.slice lb GO GR,.slice lc GN GQ] 68 (0,0))by rw[Ch];exact ai _ _ _ rfl);go_upto_region 2 with fail;rw[<-Ch];clear hx zJ Lz Ch hW;go_wp2_with fail;refine Gn.o.mono ?_
  have AT:=ae (fun(hs:r.status=1)=>show r.Y.length=q/\o9 r.value=true/\∀k,k<r.Y.length->o9 (r.Y[k]?.getD (0,0))=true by
   have:=gM (bound:=ar) (A:=cV p.toNat n) (B:=dk p.toNat) (C:=bG V) (by rw[<-C0.o];exact hs);rw[<-C0.o]at this;refine⟨?_,this.2.2.2.2⟩;rw[this.2.2.2.1];unfold dk
   rw[O5,Ay.o,CI])
  rintro e w3 ⟨⟨xa,xn,xc,ya,yn,yc,ra,rn,rc,rfl,DH⟩,zm⟩;obtain⟨w4,IW⟩:=b9 (w3.alloc (bX r xa xn xc ya yn yc ra rn rc));have zX:Ext w3 w4:=by rw[IW];exact Ext.alloc _ _
  have X4:=ae ((X2.o.trans zm).trans zX);have A1:=ae (DH.here.ext zX);have Ig:=ae (show w4.heap[w3.heap.size]?=some (bX r xa xn xc ya yn yc ra rn rc)by rw[IW];exact ai _ _ _ rfl);obtain⟨rs,rX,Q,rr,⟨I,J⟩,rp⟩:=r;unfold CC;go_upto_region 5 with fail;rw[<-IW];clear DH zm zX IW t0 t1 t2;generalize w3.heap.size=b5 at Ig⊢;have Ze:=mr Ig.o;obtain⟨l0,l1,l2,l3,l4,l5,l6,lf⟩:=zN Ig.o
  try simp only at l0 l1 l2 l3 l4 l5 l6
  by_cases hs:rs=1
  ·obtain⟨Jk,EV,Ht⟩:=AT.o hs
   try simp only at Jk EV Ht
   subst hs;have A4:=aQ EV
   try simp only at A4
   have Gv:=ae (fun(w':World) (hx:Ext W w')=>lh (p:=p) (HI.o.ext hx));simp only[<-HG.o]at Gv;have b0:=X4.o.j9 EC.o;have b1:=X4.o.j9 EN.o;have Vv:=ae Ht;have Hi:=ae Jk;clear EV Ht Jk;go_wp2_with fail;refine(Gv.o _ X4.o).mono ?_;rintro e w5 ⟨rfl,AK⟩;go_wp2_with fail;refine(cX g _).mono ?_;rintro e w6 ⟨rfl,Ki⟩;obtain⟨w7,DE⟩:=b9 (w6.alloc (.cells #[.int .i64 g,.int .i64 1] 62));have Mj:Ext w4 w7:=by rw[DE];exact(AK.trans Ki).trans (Ext.alloc _ _)
   have X7:=ae (X4.o.trans Mj);have Au:=ae (Mj.blk Ig.o);have e0:w7.cell? ⟨w6.heap.size,0,none⟩=some (.int .i64 g):=by rw[DE];simp
   have e1:w7.cell? ⟨w6.heap.size,1,none⟩=some (.int .i64 1):=by rw[DE];simp
   have HY7:=ae (A1.o.y.ext Mj);obtain⟨m0,m1,m2,m3,m4,m5,m6,mf⟩:=zN Au.o
   try simp only at m0 m1 m2 m3 m4 m5 m6
   go_upto_region 8 with fail;rw[<-DE];clear AK Ki Mj DE l0 l1 l2 l3 l4 l5 l6 lf b0 b1;generalize w6.heap.size=b6 at e0 e1⊢;obtain⟨Z,hZ⟩:=b9 (zV (-I,J) (g,1));have HZC:=ae hZ;clear hZ;go_wp2_with fail;have k7:Ext w7 w7.drew:=Ext.drew w7;have zw:=k7;have k8:=ae (fun(w':World) (h:Ext w7 w')=>(⟨h.j9 m4,h.j9 m5,h.j9 e0,h.j9 e1,h⟩:w'.cell? ⟨b5,4,none⟩=some (.int .i64 I)/\w'.cell? ⟨b5,5,none⟩=some (.int .i64 J)/\w'.cell? ⟨b6,0,none⟩=some (.int .i64 g)/\w'.cell? ⟨b6,1,none⟩=some (.int .i64 1)/\Ext w7 w'));go_wp2_with fail
   go_region_held3 (fun w'=>w'.cell? ⟨b5,4,none⟩=some (.int .i64 I)/\w'.cell? ⟨b5,5,none⟩=some (.int .i64 J)/\w'.cell? ⟨b6,0,none⟩=some (.int .i64 g)/\w'.cell? ⟨b6,1,none⟩=some (.int .i64 1)/\Ext w7 w')
    (with_reducible exact k8.o _ k7)
    (first
      | (go_at_call 74
         (with_reducible refine(eo I J _ e7 e7).mono ?_)
         rintro e w8 ⟨rfl,At⟩;have k7:Ext w7 w8:=k7.trans At
         have SW:=k7.size)
      | (go_at_call 73
         (with_reducible refine(iX (-I) J g 1 _).mono ?_)
         rw[<-HZC.o];rintro e w9 ⟨rfl,Jn⟩;have k7:Ext w7 w9:=k7.trans Jn
         have hs_w9:=k7.size)
      | fail)
   clear k8 zw;have X9:=X7.o.trans k7;have Me:=ae (k7.blk Au.o);obtain⟨k0,k1,k2,k3,k4,k5,k6,kf⟩:=zN Me.o
   try simp only at k0 k1 k2 k3 k4 k5 k6
   have f0:=k7.j9 e0;have f1:=k7.j9 e1;have HY9:=ae (HY7.o.ext k7);have Sc:=ae X9;clear m0 m1 m2 m3 m4 m5 m6 mf e0 e1 k7;by_cases hz:0<Z
   ·have HC:=ae (show em true g ⟨1,rX,Q,rr,(I,J),rp⟩=2 by
     unfold em
     rw[hD e8,hD e8,hI (by show 0<zV (-I,J) (g,1);rw[<-HZC.o];exact hz)])
    obtain⟨q0,q1,q2,qf⟩:=Gq.o w9 X9;obtain⟨z,z0,z1,z2,K⟩:=Bc.o w9 X9 2 (.slice none 0 0) (.slice xa xn xc);have HZ:=ae z;have GF:=ae K;clear z K;go_wp2_with fail;refine bR (v:=.agg #[.int .i64 2,.slice none 0 0,.slice xa xn xc]) (by simp[results,abM,go_sem,z0,z1,z2]) rfl ⟨⟨_,_,_,_,_,_,by rw[HC.o],fun h=>by rw[HC.o]at h;cases h⟩,HZ.o⟩
   ·have Yt:yn<=100000:=by have h1:=HY9.o.hlen;have h2:=Hi.o;(try simp only at h1);omega
    have Xd:=ae (oI HY9.o Yt (fun k=>by
     by_cases hk:k<Q.length
     ·have:=aQ (Vv.o k hk);omega
     ·rw[G4 e7];simp))
    clear X9;go_wp2_with fail;refine Xd.o.mono ?_;rintro e Ii ⟨⟨v,rfl,ho⟩,Im⟩;obtain⟨a10,G,p10,rfl,VV⟩:=ho.var;have Cg:=ae ho;have HB10:=ae (Im.blk Me.o);obtain⟨m0,m1,m2,m3,m4,m5,m6,mf⟩:=zN HB10.o
    try simp only at m0 m1 m2 m3 m4 m5 m6
    have e0:=Im.j9 f0;have e1:=Im.j9 f1;have X10:=ae (Sc.o.trans Im);obtain⟨s1,s2,one,JZ⟩:∃s1 s2 o,Ab (g,1) (I,J)=((s1,s2),o):=⟨_,_,_,rfl⟩;have CS:=ae JZ;clear ho Im k0 k1 k2 k3 k4 k5 k6 kf f0 f1 JZ;go_wp2_with fail;refine(kh g 1 I J _).mono ?_;rw[CS.o];rintro e Hr ⟨rfl,GW⟩;obtain⟨U,NZ⟩:=b9 (Hr.alloc (.cells #[.int .i64 s1,.int .i64 s2] 62));have B8:Ext Ii U:=by rw[NZ];exact GW.trans (Ext.alloc _ _)
    have KC:=ae (X10.o.trans B8);have d0:U.cell? ⟨Hr.heap.size,0,none⟩=some (.int .i64 s1):=by rw[NZ];simp
    have d1:U.cell? ⟨Hr.heap.size,1,none⟩=some (.int .i64 s2):=by rw[NZ];simp
    have Gt:=ae (Cg.o.ext B8);have En:(Q.map ze).length=q:=by rw[zo];exact Hi.o
    have Lh:=ae (show G=q by rw[<-VV.o];exact En);obtain⟨u,hu⟩:∃u:Nat,u+1=G:=⟨G-1,by have:=Lh.o;omega⟩;have GY:(G:Int)-1=(u:Int):=by omega
    have EJ:u<G:=by omega
    have Qe:IntKind.i64.wrap ((G:Int)-1)=(u:Int):=by rw[GY,cn];have:=Gt.o.zj.l8;have:=Gt.o.zj.l9;omega
    have Mk:(0:Int)<=(u:Int):=by omega
    have hul:(u:Int)<(G:Int):=by omega
    obtain⟨O,xo,x1,x2,rfl,Rh,Wk,Wj⟩:=Gt.o.zj.at EJ;obtain⟨l1,l2,two,UF⟩:∃l1 l2 o,Ab (x1,x2) (s1,s2)=((l1,l2),o):=⟨_,_,_,rfl⟩;have QA:=ae UF
    have CG:=ae (show iB g ⟨1,rX,Q,rr,(I,J),rp⟩=((l1,l2),two)by
     unfold iB dX Jh;simp only
     rw[En,<-Lh.o,show G-1=u by omega,Rh,CS.o,UF])
    have PL:=ae (show Wf g ⟨1,rX,Q,rr,(I,J),rp⟩=(Q.map ze).set u (l1,l2)by
     unfold Wf Jh;simp only
     rw[CG.o,En,<-Lh.o,show G-1=u by omega])
    have HUL:=ae (show u<(Q.map ze).length by rw[En,<-Lh.o];exact EJ);have Gp:=ae (show dX g ⟨1,rX,Q,rr,(I,J),rp⟩=((s1,s2),one)from CS.o)
    have KO:=ae (show em true g ⟨1,rX,Q,rr,(I,J),rp⟩=if(one&&two)=true then 1 else 3 by
     unfold em
     rw[hD e8,hD e8,hD (by show¬0<zV (-I,J) (g,1);rw[<-HZC.o];omega),Gp.o,CG.o])
    have hc10:=Gt.o.zj.l8;have hm10:=Gt.o.zj.l9;go_upto_region 12 with fail;rw[<-NZ];clear NZ B8 GW UF Rh hu GY En m0 m1 m2 m3 m4 m5 m6 mf e0 e1;generalize Hr.heap.size=b8 at d0 d1⊢;go_upto_region 12 with fail
    go_cut [10,11] (fun sx so wx=>∃gb:Nat,sx=.pointer (some ⟨gb,0,none⟩)/\so=.bool two/\b7 (ah U wx gb l1 l2))
    case first =>
     have k7:Ext U U.drew:=Ext.drew U;have zw:Ext U (U.alloc (.cells #[.int .i64 0,.int .i64 0] 62)).drew:=(Ext.alloc _ _).trans (Ext.drew _);have k8:=ae (fun(w':World) (h:Ext U w')=>(⟨h.j9 Wk,h.j9 Wj,h.j9 d0,h.j9 d1,h⟩:w'.cell? ⟨O,xo+u*2,none⟩=some (.int .i64 x1)/\w'.cell? ⟨O,xo+u*2+1,none⟩=some (.int .i64 x2)/\w'.cell? ⟨b8,0,none⟩=some (.int .i64 s1)/\w'.cell? ⟨b8,1,none⟩=some (.int .i64 s2)/\Ext U w'))
     go_region_held3 (fun w'=>w'.cell? ⟨O,xo+u*2,none⟩=some (.int .i64 x1)/\w'.cell? ⟨O,xo+u*2+1,none⟩=some (.int .i64 x2)/\w'.cell? ⟨b8,0,none⟩=some (.int .i64 s1)/\w'.cell? ⟨b8,1,none⟩=some (.int .i64 s2)/\Ext U w')
      (first
        | with_reducible exact k8.o _ k7
        | with_reducible exact k8.o _ zw
        | with_reducible exact k8.o _ ((k7.setCell (by first|(simp;done)|(simp;omega)) _).setCell (by first|(simp;done)|(simp;omega)) _)
        | with_reducible exact k8.o _ (k7.trans (Ext.alloc _ _))
        | with_reducible exact k8.o _ (q8.put _ _).ext)
      (first
        | (go_at_call 76
           (with_reducible refine(kh _ _ _ _ _).mono ?_)
           rw[QA.o];rintro e TO ⟨rfl,Bn⟩
           first|(with_reducible have q8:=ah.grow q8 Bn)|(with_reducible have q8:=ah.zu Bn)|(with_reducible have q8:=ah.zy k7 Bn)|skip
           first|(have Dy:=q8.c0;have Dx:=q8.c1;have Ev:=q8.free)|skip
           have k7:Ext U TO:=by first|with_reducible exact k7.trans Bn|with_reducible exact zw.trans Bn|with_reducible exact(k7.trans (Ext.alloc _ _)).trans Bn
           have A0:=k7.size)
        | fail)
     all_goals(go_wp2_with fail;go_meet;first|exact⟨_,rfl,rfl,ae (q8.put _ _)⟩|exact⟨_,rfl,rfl,ae (ah.new k7 _ _)⟩|exact⟨_,rfl,rfl,ae (ah.new' k7 _ _ e8)⟩)
    obtain⟨gb,rfl,rfl,HB⟩:=hcut;have XC:=KC.o.trans HB.o.ext;have g0:=HB.o.c0;have g1:=HB.o.c1;have Fk:=ae (Gt.o.ext HB.o.ext);have E7:=ae XC;clear Wk Wj d0 d1;cases one
    ·have HC:=ae (show em true g ⟨1,rX,Q,rr,(I,J),rp⟩=3 by rw[KO.o];rfl);obtain⟨q0,q1,q2,qf⟩:=Gq.o wc XC;obtain⟨z,z0,z1,z2,K⟩:=Bc.o wc XC 3 (.slice none 0 0) (.slice none 0 0);have HZ:=ae z;have GF:=ae K;clear z K;go_wp2_with fail;refine bR (v:=.agg #[.int .i64 3,.slice none 0 0,.slice none 0 0]) (by simp[results,abM,go_sem,z0,z1,z2]) rfl ⟨⟨_,_,_,_,_,_,by rw[HC.o],fun h=>by rw[HC.o]at h;cases h⟩,HZ.o⟩
    cases two
    ·have HC:=ae (show em true g ⟨1,rX,Q,rr,(I,J),rp⟩=3 by rw[KO.o];rfl);obtain⟨q0,q1,q2,qf⟩:=Gq.o wc XC;obtain⟨z,z0,z1,z2,K⟩:=Bc.o wc XC 3 (.slice none 0 0) (.slice none 0 0);have HZ:=ae z;have GF:=ae K;clear z K;go_wp2_with fail;refine bR (v:=.agg #[.int .i64 3,.slice none 0 0,.slice none 0 0]) (by simp[results,abM,go_sem,z0,z1,z2]) rfl ⟨⟨_,_,_,_,_,_,by rw[HC.o],fun h=>by rw[HC.o]at h;cases h⟩,HZ.o⟩
    ·have HC:=ae (show em true g ⟨1,rX,Q,rr,(I,J),rp⟩=1 by rw[KO.o];rfl);obtain⟨gp,RH,B2,Oy,I1⟩:=Fk.o.block EJ;simp only[bA,mq,zz]at RH;obtain⟨rfl,rfl⟩:=RH;obtain⟨y0,y1,y2,y3,Qd,_,Uc,XM⟩:=Fk.o.zj.at EJ;simp only[bA,mq,zz]at Qd;obtain⟨rfl,rfl⟩:=Qd;rw[Mf]at Uc XM;have Hn:=ae (Fk.o.set HUL.o l1 l2);have XX:W.heap.size<=O:=by have:=Sc.o.size;omega
     have XP:Ext W ((wc.setCell ⟨O,u*2,none⟩ (.int .i64 l1)).setCell ⟨O,u*2+1,none⟩ (.int .i64 l2)):=(XC.setCell (p:=⟨O,u*2,none⟩) XX _).setCell (p:=⟨O,u*2+1,none⟩) XX _;obtain⟨wp,NY⟩:=b9 ((wc.setCell ⟨O,u*2,none⟩ (.int .i64 l1)).setCell ⟨O,u*2+1,none⟩ (.int .i64 l2));rw[<-NY]at Hn XP;rw[<-PL.o]at Hn;go_upto_region 16 with fail;rw[<-NY];clear NY Uc XM Oy g0 g1 XC;obtain⟨q0,q1,q2,qf⟩:=Gq.o wp XP;obtain⟨z,z0,z1,z2,K⟩:=Bc.o wp XP 1 (.slice (some ⟨O,0,none⟩) G p10) (.slice none 0 0);have HZ:=ae z;have GF:=ae K;clear z K;go_wp2_with fail;refine bR (v:=.agg #[.int .i64 1,.slice (some ⟨O,0,none⟩) G p10,.slice none 0 0]) (by simp[results,abM,go_sem,z0,z1,z2]) rfl ⟨⟨_,_,_,_,_,_,by rw[HC.o],fun _=>(Hn.o.mono (j1 Sc.o.size)).keep fun k hk=>GF.o k (by have:=(Hn.o.lt k hk).1;have:=Sc.o.size;omega)⟩,HZ.o⟩
  ·have HC:=ae (show em true g ⟨rs,rX,Q,rr,(I,J),rp⟩=3 by unfold em;rw[hD e8,hI hs]);have Ec:(rs != 1)=true:=by simp[hs]
   have X4':=X4.o;obtain⟨q0,q1,q2,qf⟩:=Gq.o w4 X4';obtain⟨z,z0,z1,z2,K⟩:=Bc.o w4 X4' 3 (.slice none 0 0) (.slice none 0 0);have HZ:=ae z;have GF:=ae K;clear z K;go_wp2_with fail;refine bR (v:=.agg #[.int .i64 3,.slice none 0 0,.slice none 0 0]) (by simp[results,abM,go_sem,z0,z1,z2]) rfl ⟨⟨_,_,_,_,_,_,by rw[HC.o],fun h=>by rw[HC.o]at h;cases h⟩,HZ.o⟩
