import Derived.Test.YtdadoignenffgaaGreatDoorSvAllG20
import Derived.Test.YtdadoignenffgaaGreatDoorSvAllG41
import Derived.Test.YtdadoignenffgaaGreatDoorSvAllG23
import Derived.Test.YtdadoignenffgaaGreatDoorSvAllG13
import Derived.Test.YtdadoignenffgaaGreatDoorSvAllG12
set_option linter.unusedVariables false
set_option linter.unusedSimpArgs false
namespace Go.Proofs.YtdadoignenffgaaGreatDoor
variable{w:World}
set_option maxHeartbeats 16000000
set_option maxRecDepth 100000
open Go.RowKit
def dP(ok:Bool)(g:Int)(r:yu):Int:=if ok=false then 0 else if r.status≠1 then 3 else if 0<vP (uU r.value) (g,1) then 2 else if((dC g r).2&&(gj g r).2)=true then 1 else 3
def eh(ok:Bool)(g:Int)(r:yu):Int:=if ok=false then 0 else if r.status≠1 then 3 else if(dC g r).2=false then 3 else if(dC g r).1.1<0 then 2 else if(gj g r).2=true then 1 else 3
def CoR(w:World)(base:Nat)(e:Ending)(code:Int)(pt:j4):Prop :=
 ∃pa pn pc wa wn wc,e=.returned (.agg #[.int .i64 code,.slice pa pn pc,.slice wa wn wc])/\(code=1->l9 w base (.slice pa pn pc) pt)
theorem iF{g:Nat}{a b c:Value}{t:TypeId}(hb:w.heap[g]?=some (.cells #[a,b,c] t (0,0))):
 w.cell? ⟨g,0,none⟩=some a/\w.cell? ⟨g,1,none⟩=some b/\w.cell? ⟨g,2,none⟩=some c/\∀k,w.frozen? ⟨g,k,none⟩=false:=by
 refine⟨?_,?_,?_,fun k=>frozen_of_row w g k _ _ hb⟩<;>rw[cell_of_row w g _ _ _ _ hb]<;>rfl
theorem rh{W:World}{r:Nat}{x0 x1 x2:Value}{t:TypeId}(hb:W.heap[r]?=some (.cells #[x0,x1,x2] t (0,0)))(hX:Ext w W)(hr:w.heap.size<=r)(v0 v1 v2:Value):
 Ext w (((W.setCell ⟨r,0,none⟩ v0).setCell ⟨r,1,none⟩ v1).setCell ⟨r,2,none⟩ v2)/\(((W.setCell ⟨r,0,none⟩ v0).setCell ⟨r,1,none⟩ v1).setCell ⟨r,2,none⟩ v2).cell? ⟨r,0,none⟩=some v0/\(((W.setCell ⟨r,0,none⟩ v0).setCell ⟨r,1,none⟩ v1).setCell ⟨r,2,none⟩ v2).cell? ⟨r,1,none⟩=some v1/\(((W.setCell ⟨r,0,none⟩ v0).setCell ⟨r,1,none⟩ v1).setCell ⟨r,2,none⟩ v2).cell? ⟨r,2,none⟩=some v2 /\
  ∀b,b≠r->(((W.setCell ⟨r,0,none⟩ v0).setCell ⟨r,1,none⟩ v1).setCell ⟨r,2,none⟩ v2).heap[b]?=W.heap[b]?:=by
 have h1:=heap_setCell_same W r 0 _ t v0 hb;have h2:=heap_setCell_same _ r 1 _ t v1 h1;have h3:=heap_setCell_same _ r 2 _ t v2 h2;obtain⟨c0,c1,c2,_⟩:=iF (a:=v0) (b:=v1) (c:=v2) h3;exact⟨((hX.setCell (p:=⟨r,0,none⟩) hr _).setCell (p:=⟨r,1,none⟩) hr _).setCell (p:=⟨r,2,none⟩) hr _,c0,c1,c2,fun b wU=>(heap_setCell_other _ _ _ _ wU).trans ((heap_setCell_other _ _ _ _ wU).trans (heap_setCell_other _ _ _ _ wU))⟩
theorem gP{V:j7}(hb:∀x∈V,-500<=x/\x<=500)(k:Nat):-500<=V[k]?.getD 0/\V[k]?.getD 0<=500:=by
 by_cases h:k<V.length
 ·rw[List.getElem?_eq_getElem h];exact hb _ (List.getElem_mem h)
 ·rw[List.getElem?_eq_none e7];simp
theorem sJ{p:Int}{a:j6}{n cap:Nat}{V:j7}(h:Ints w a n cap V):
 Calls Tryz.prog 26 #[pair p a n cap] w fun e w'=>CoR w' w.heap.size e (dP (aH p V) (bI p V) (be am (cq p.toNat n) (cL p.toNat) (bg V))) (Rv (bI p V) (be am (cq p.toNat n) (cL p.toNat) (bg V)))/\Ext w w':=by
 obtain⟨W,hW⟩:=b9 ((w.alloc (.cells #[.int .i64 p,.slice a n cap] 32)).alloc (.cells #[.int .i64 0,.slice none 0 0,.slice none 0 0] 39));have WI:W.heap.size=w.heap.size+2:=by rw[hW];simp
 have hX:Ext w W:=by rw[hW];exact(Ext.alloc _ _).trans (Ext.alloc _ _)
 have wi:=ae (show W.heap[w.heap.size+1]?=some (.cells #[.int .i64 0,.slice none 0 0,.slice none 0 0] 39 (0,0))by rw[hW];exact aj _ _ _ e8);have Bh:=ae (show W.cell? ⟨w.heap.size,0,none⟩=some (.int .i64 p)by rw[hW];exact Ext.j9 (Ext.alloc _ _) e8);have Ee:=ae (show W.cell? ⟨w.heap.size,1,none⟩=some (.slice a n cap)by rw[hW];exact Ext.j9 (Ext.alloc _ _) e8);have HI:=ae (h.ext hX);have HX:=ae hX;have Cd:=ae (oS (p:=p) HI.o);obtain⟨g,DM⟩:=b9 (bI p V);obtain⟨r,xA⟩:=b9 (be am (cq p.toNat n) (cL p.toNat) (bg V));have HG:=ae DM;have zE:=ae xA;rw[<-DM,<-xA];have xD:=ae (fun(w':World) (hx:Ext W w') (code:Int) (x1 x2:Value)=>rh (w:=w) ((hx.block _ e7).trans wi.o) (HX.o.trans hx) (Nat.le_succ _) (.int .i64 code) x1 x2);have CM:=ae (fun(w':World) (hx:Ext W w')=>iF ((hx.block _ e7).trans wi.o));clear h hX DM xA;cases hgo:aH p V
 ·rw[hgo]at Cd;have HC:=ae (show dP false g r=0 from rfl);clear hgo;go_enter Tryz.func26,Tryz.ntmps26
  go_wp2_with fail;rw[<-hW];refine Cd.o.mono ?_;rintro e w1 ⟨⟨la,C9,Dc,lb,C8,Db,lc,C7,Da,rfl,_⟩,hx⟩;unfold Al;obtain⟨w2,AM⟩:=b9 (w1.alloc (aV la C9 Dc lb C8 Db lc C7 Da));have X2:Ext W w2:=by rw[AM];exact hx.trans (Ext.alloc _ _)
  obtain⟨q0,q1,q2,qf⟩:=CM.o w2 X2;obtain⟨z,z0,z1,z2,_⟩:=xD.o w2 X2 0 (.slice none 0 0) (.slice none 0 0);have HZ:=ae z;go_upto_region 2 with fail;rw[<-AM];clear hx AM hW z;go_wp2_with fail;refine bodyPost_ret (v:=.agg #[.int .i64 0,.slice none 0 0,.slice none 0 0]) (by simp[results,Tryz.results26,go_sem,z0,z1,z2]) rfl ⟨⟨_,_,_,_,_,_,by rw[HC.o],fun h=>by rw[HC.o]at h;cases h⟩,HZ.o⟩
 ·rw[hgo]at Cd;obtain⟨q,vK,Ao,CU,YS,_,LM⟩:=bF hgo;have Fa:-500<=g/\g<=500:=by rw[HG.o,fO hgo];exact gP LM _
  have wI:=ae vK;clear hgo YS LM vK;go_enter Tryz.func26,Tryz.ntmps26
  go_wp2_with fail;rw[<-hW];refine Cd.o.mono ?_;rintro e w1 ⟨⟨la,C9,Dc,lb,C8,Db,lc,C7,Da,rfl,Hd⟩,hx⟩;unfold Al;obtain⟨w2,AM⟩:=b9 (w1.alloc (aV la C9 Dc lb C8 Db lc C7 Da));have vL:Ext w1 w2:=by rw[AM];exact Ext.alloc _ _
  have X2:=ae (hx.trans vL);have CJ:=ae (nk ((Hd rfl).ext vL));rw[<-zE.o]at CJ;have t0:=al (show w2.heap[w1.heap.size]?=some (.cells #[.slice la C9 Dc,.slice lb C8 Db,.slice lc C7 Da] 68 (0,0))by rw[AM];exact aj _ _ _ rfl);have t1:=au (show w2.heap[w1.heap.size]?=some (.cells #[.slice la C9 Dc,.slice lb C8 Db,.slice lc C7 Da] 68 (0,0))by rw[AM];exact aj _ _ _ rfl);have t2:=av (show w2.heap[w1.heap.size]?=some (.cells #[.slice la C9 Dc,.slice lb C8 Db,.slice lc C7 Da] 68 (0,0))by rw[AM];exact aj _ _ _ rfl);go_upto_region 2 with fail;rw[<-AM];clear hx vL Hd AM hW;go_wp2_with fail;refine CJ.o.mono ?_
  have xh:=ae (fun(hs:r.status=1)=>show r.Y.length=q/\o9 r.value=true/\∀k,k<r.Y.length->o9 (r.Y[k]?.getD (0,0))=true by
   have:=fq (bound:=am) (A:=cq p.toNat n) (B:=cL p.toNat) (C:=bg V) (by rw[<-zE.o];exact hs);rw[<-zE.o]at this;refine⟨?_,this.2.2.2.2⟩;rw[this.2.2.2.1];unfold cL
   rw[List.length_replicate,wI.o,Int.toNat_natCast])
  rintro e w3 ⟨⟨xa,xn,xc,ya,yn,yc,ra,rn,rc,rfl,AW⟩,vj⟩;obtain⟨w4,Gy⟩:=b9 (w3.alloc (bH r xa xn xc ya yn yc ra rn rc));have vW:Ext w3 w4:=by rw[Gy];exact Ext.alloc _ _
  have X4:=ae ((X2.o.trans vj).trans vW);have xE:=ae (AW.here.ext vW);have DU:=ae (show w4.heap[w3.heap.size]?=some (bH r xa xn xc ya yn yc ra rn rc)by rw[Gy];exact aj _ _ _ rfl);obtain⟨rs,rX,O,rr,⟨G,I⟩,rp⟩:=r;unfold zg;go_upto_region 5 with fail;rw[<-Gy];clear AW vj vW Gy t0 t1 t2;generalize w3.heap.size=b5 at DU⊢;have TN:=lt_of_block DU.o;obtain⟨l0,l1,l2,l3,l4,l5,l6,lf⟩:=vH DU.o
  try simp only at l0 l1 l2 l3 l4 l5 l6
  by_cases hs:rs=1
  ·obtain⟨EN,Bu,DD⟩:=xh.o hs
   try simp only at EN Bu DD
   subst hs;have xK:=aL Bu
   try simp only at xK
   have CQ:=ae (fun(w':World) (hx:Ext W w')=>jr (p:=p) (HI.o.ext hx));simp only[<-HG.o]at CQ;have b0:=X4.o.j9 Bh.o;have b1:=X4.o.j9 Ee.o;have QQ:=ae DD;have Du:=ae EN;clear Bu DD EN;go_wp2_with fail;refine(CQ.o _ X4.o).mono ?_;rintro e w5 ⟨rfl,wX⟩;go_wp2_with fail;refine(cv g _).mono ?_;rintro e w6 ⟨rfl,FT⟩;obtain⟨U,Am⟩:=b9 (w6.alloc (.cells #[.int .i64 g,.int .i64 1] 62));have Il:Ext w4 U:=by rw[Am];exact(wX.trans FT).trans (Ext.alloc _ _)
   have X7:=ae (X4.o.trans Il);have wE:=ae (Il.blk DU.o);have e0:U.cell? ⟨w6.heap.size,0,none⟩=some (.int .i64 g):=by rw[Am];simp
   have e1:U.cell? ⟨w6.heap.size,1,none⟩=some (.int .i64 1):=by rw[Am];simp
   have HY7:=ae (xE.o.y.ext Il);obtain⟨m0,m1,m2,m3,m4,m5,m6,mf⟩:=vH wE.o
   try simp only at m0 m1 m2 m3 m4 m5 m6
   go_upto_region 8 with fail;rw[<-Am];clear wX FT Il Am l0 l1 l2 l3 l4 l5 l6 lf b0 b1;generalize w6.heap.size=b6 at e0 e1⊢;obtain⟨Z,hZ⟩:=b9 (vP (-G,I) (g,1));have Zj:=ae hZ;clear hZ;go_wp2_with fail;have k7:Ext U U.drew:=Ext.drew U;have vt:=k7;have k8:=ae (fun(w':World) (h:Ext U w')=>(⟨h.j9 m4,h.j9 m5,h.j9 e0,h.j9 e1,h⟩:w'.cell? ⟨b5,4,none⟩=some (.int .i64 G)/\w'.cell? ⟨b5,5,none⟩=some (.int .i64 I)/\w'.cell? ⟨b6,0,none⟩=some (.int .i64 g)/\w'.cell? ⟨b6,1,none⟩=some (.int .i64 1)/\Ext U w'));go_wp2_with fail
   go_region_held3 (fun w'=>w'.cell? ⟨b5,4,none⟩=some (.int .i64 G)/\w'.cell? ⟨b5,5,none⟩=some (.int .i64 I)/\w'.cell? ⟨b6,0,none⟩=some (.int .i64 g)/\w'.cell? ⟨b6,1,none⟩=some (.int .i64 1)/\Ext U w')
    (with_reducible exact k8.o _ k7)
    (first
      | (go_at_call 74
         (with_reducible refine(dS G I _ e7 e7).mono ?_)
         rintro e w8 ⟨rfl,wC⟩;have k7:Ext U w8:=k7.trans wC
         have Ov:=k7.size)
      | (go_at_call 73
         (with_reducible refine(gS (-G) I g 1 _).mono ?_)
         rw[<-Zj.o];rintro e w9 ⟨rfl,ER⟩;have k7:Ext U w9:=k7.trans ER
         have hs_w9:=k7.size)
      | fail)
   clear k8 vt;have X9:=X7.o.trans k7;have Ih:=ae (k7.blk wE.o);obtain⟨k0,k1,k2,k3,k4,k5,k6,kf⟩:=vH Ih.o
   try simp only at k0 k1 k2 k3 k4 k5 k6
   have f0:=k7.j9 e0;have f1:=k7.j9 e1;have HY9:=ae (HY7.o.ext k7);have NK:=ae X9;clear m0 m1 m2 m3 m4 m5 m6 mf e0 e1 k7;by_cases hz:0<Z
   ·have HC:=ae (show dP true g ⟨1,rX,O,rr,(G,I),rp⟩=2 by
     unfold dP
     rw[if_neg e8,if_neg e8,if_pos (by show 0<vP (-G,I) (g,1);rw[<-Zj.o];exact hz)])
    obtain⟨q0,q1,q2,qf⟩:=CM.o w9 X9;obtain⟨z,z0,z1,z2,J⟩:=xD.o w9 X9 2 (.slice none 0 0) (.slice xa xn xc);have HZ:=ae z;have C0:=ae J;clear z J;go_wp2_with fail;refine bodyPost_ret (v:=.agg #[.int .i64 2,.slice none 0 0,.slice xa xn xc]) (by simp[results,Tryz.results26,go_sem,z0,z1,z2]) rfl ⟨⟨_,_,_,_,_,_,by rw[HC.o],fun h=>by rw[HC.o]at h;cases h⟩,HZ.o⟩
   ·have S8:yn<=100000:=by have h1:=HY9.o.hlen;have h2:=Du.o;(try simp only at h1);omega
    have ZT:=ae (lK HY9.o S8 (fun k=>by
     by_cases hk:k<O.length
     ·have:=aL (QQ.o k hk);omega
     ·rw[List.getElem?_eq_none e7];simp))
    clear X9;go_wp2_with fail;refine ZT.o.mono ?_;rintro e DW ⟨⟨v,rfl,ho⟩,DZ⟩;obtain⟨a10,E,p10,rfl,Re⟩:=ho.var;have Aj:=ae ho;have HB10:=ae (DZ.blk Ih.o);obtain⟨m0,m1,m2,m3,m4,m5,m6,mf⟩:=vH HB10.o
    try simp only at m0 m1 m2 m3 m4 m5 m6
    have e0:=DZ.j9 f0;have e1:=DZ.j9 f1;have X10:=ae (NK.o.trans DZ);obtain⟨s1,s2,one,Fw⟩:∃s1 s2 o,we (g,1) (G,I)=((s1,s2),o):=⟨_,_,_,rfl⟩;have zP:=ae Fw;clear ho DZ k0 k1 k2 k3 k4 k5 k6 kf f0 f1 Fw;go_wp2_with fail;refine(iM g 1 G I _).mono ?_;rw[zP.o];rintro e DB ⟨rfl,Df⟩;obtain⟨Q,JO⟩:=b9 (DB.alloc (.cells #[.int .i64 s1,.int .i64 s2] 62));have yH:Ext DW Q:=by rw[JO];exact Df.trans (Ext.alloc _ _)
    have Gc:=ae (X10.o.trans yH);have d0:Q.cell? ⟨DB.heap.size,0,none⟩=some (.int .i64 s1):=by rw[JO];simp
    have d1:Q.cell? ⟨DB.heap.size,1,none⟩=some (.int .i64 s2):=by rw[JO];simp
    have CP:=ae (Aj.o.ext yH);have BR:(O.map uU).length=q:=by rw[List.length_map];exact Du.o
    have GQ:=ae (show E=q by rw[<-Re.o];exact BR);obtain⟨u,hu⟩:∃u:Nat,u+1=E:=⟨E-1,by have:=GQ.o;omega⟩;have DH:(E:Int)-1=(u:Int):=by omega
    have Bl:u<E:=by omega
    have LD:IntKind.i64.wrap ((E:Int)-1)=(u:Int):=by rw[DH,IntKind.wrap_i64];have:=CP.o.uZ.l8;have:=CP.o.uZ.o0;omega
    have JS:(0:Int)<=(u:Int):=by omega
    have hul:(u:Int)<(E:Int):=by omega
    obtain⟨K,xo,x1,x2,rfl,MK,RA,Rz⟩:=CP.o.uZ.at Bl;obtain⟨l1,l2,two,P4⟩:∃l1 l2 o,we (x1,x2) (s1,s2)=((l1,l2),o):=⟨_,_,_,rfl⟩;have L0:=ae P4
    have zk:=ae (show gj g ⟨1,rX,O,rr,(G,I),rp⟩=((l1,l2),two)by
     unfold gj dC EM;simp only
     rw[BR,<-GQ.o,show E-1=u by omega,MK,zP.o,P4])
    have Lb:=ae (show Rv g ⟨1,rX,O,rr,(G,I),rp⟩=(O.map uU).set u (l1,l2)by
     unfold Rv EM;simp only
     rw[zk.o,BR,<-GQ.o,show E-1=u by omega])
    have Zr:=ae (show u<(O.map uU).length by rw[BR,<-GQ.o];exact Bl);have CK:=ae (show dC g ⟨1,rX,O,rr,(G,I),rp⟩=((s1,s2),one)from zP.o)
    have Gr:=ae (show dP true g ⟨1,rX,O,rr,(G,I),rp⟩=if(one&&two)=true then 1 else 3 by
     unfold dP
     rw[if_neg e8,if_neg e8,if_neg (by show¬0<vP (-G,I) (g,1);rw[<-Zj.o];omega),CK.o,zk.o])
    have YD:=CP.o.uZ.l8;have XH:=CP.o.uZ.o0;go_upto_region 12 with fail;rw[<-JO];clear JO yH Df P4 MK hu DH BR m0 m1 m2 m3 m4 m5 m6 mf e0 e1;generalize DB.heap.size=b8 at d0 d1⊢;go_upto_region 12 with fail
    go_cut [10,11] (fun sx so wx=>∃gb:Nat,sx=.pointer (some ⟨gb,0,none⟩)/\so=.bool two/\b7 (ag Q wx gb l1 l2))
    case first =>
     have k7:Ext Q Q.drew:=Ext.drew Q;have vt:Ext Q (Q.alloc (.cells #[.int .i64 0,.int .i64 0] 62)).drew:=(Ext.alloc _ _).trans (Ext.drew _);have k8:=ae (fun(w':World) (h:Ext Q w')=>(⟨h.j9 RA,h.j9 Rz,h.j9 d0,h.j9 d1,h⟩:w'.cell? ⟨K,xo+u*2,none⟩=some (.int .i64 x1)/\w'.cell? ⟨K,xo+u*2+1,none⟩=some (.int .i64 x2)/\w'.cell? ⟨b8,0,none⟩=some (.int .i64 s1)/\w'.cell? ⟨b8,1,none⟩=some (.int .i64 s2)/\Ext Q w'))
     go_region_held3 (fun w'=>w'.cell? ⟨K,xo+u*2,none⟩=some (.int .i64 x1)/\w'.cell? ⟨K,xo+u*2+1,none⟩=some (.int .i64 x2)/\w'.cell? ⟨b8,0,none⟩=some (.int .i64 s1)/\w'.cell? ⟨b8,1,none⟩=some (.int .i64 s2)/\Ext Q w')
      (first
        | with_reducible exact k8.o _ k7
        | with_reducible exact k8.o _ vt
        | with_reducible exact k8.o _ ((k7.setCell (by first|(simp;done)|(simp;omega)) _).setCell (by first|(simp;done)|(simp;omega)) _)
        | with_reducible exact k8.o _ (k7.trans (Ext.alloc _ _))
        | with_reducible exact k8.o _ (p4.put _ _).ext)
      (first
        | (go_at_call 76
           (with_reducible refine(iM _ _ _ _ _).mono ?_)
           rw[L0.o];rintro e Pl ⟨rfl,xR⟩
           first|(with_reducible have p4:=ag.grow p4 xR)|(with_reducible have p4:=ag.vm xR)|(with_reducible have p4:=ag.vq k7 xR)|skip
           first|(have Ag:=p4.c0;have Af:=p4.c1;have Bb:=p4.free)|skip
           have k7:Ext Q Pl:=by first|with_reducible exact k7.trans xR|with_reducible exact vt.trans xR|with_reducible exact(k7.trans (Ext.alloc _ _)).trans xR
           have xu:=k7.size)
        | fail)
     all_goals(go_wp2_with fail;go_meet;first|exact⟨_,rfl,rfl,ae (p4.put _ _)⟩|exact⟨_,rfl,rfl,ae (ag.new k7 _ _)⟩|exact⟨_,rfl,rfl,ae (ag.new' k7 _ _ e8)⟩)
    obtain⟨gb,rfl,rfl,HB⟩:=hcut;have XC:=Gc.o.trans HB.o.ext;have g0:=HB.o.c0;have g1:=HB.o.c1;have BK:=ae (CP.o.ext HB.o.ext);have Bz:=ae XC;clear RA Rz d0 d1;cases one
    ·have HC:=ae (show dP true g ⟨1,rX,O,rr,(G,I),rp⟩=3 by rw[Gr.o];rfl);obtain⟨q0,q1,q2,qf⟩:=CM.o wc XC;obtain⟨z,z0,z1,z2,J⟩:=xD.o wc XC 3 (.slice none 0 0) (.slice none 0 0);have HZ:=ae z;have C0:=ae J;clear z J;go_wp2_with fail;refine bodyPost_ret (v:=.agg #[.int .i64 3,.slice none 0 0,.slice none 0 0]) (by simp[results,Tryz.results26,go_sem,z0,z1,z2]) rfl ⟨⟨_,_,_,_,_,_,by rw[HC.o],fun h=>by rw[HC.o]at h;cases h⟩,HZ.o⟩
    cases two
    ·have HC:=ae (show dP true g ⟨1,rX,O,rr,(G,I),rp⟩=3 by rw[Gr.o];rfl);obtain⟨q0,q1,q2,qf⟩:=CM.o wc XC;obtain⟨z,z0,z1,z2,J⟩:=xD.o wc XC 3 (.slice none 0 0) (.slice none 0 0);have HZ:=ae z;have C0:=ae J;clear z J;go_wp2_with fail;refine bodyPost_ret (v:=.agg #[.int .i64 3,.slice none 0 0,.slice none 0 0]) (by simp[results,Tryz.results26,go_sem,z0,z1,z2]) rfl ⟨⟨_,_,_,_,_,_,by rw[HC.o],fun h=>by rw[HC.o]at h;cases h⟩,HZ.o⟩
    ·have HC:=ae (show dP true g ⟨1,rX,O,rr,(G,I),rp⟩=1 by rw[Gr.o];rfl);obtain⟨gp,Nb,Fa,Kd,Ev⟩:=BK.o.block Bl;simp only[Option.some.injEq,Addr.mk.injEq,and_true]at Nb;obtain⟨rfl,rfl⟩:=Nb;obtain⟨y0,y1,y2,y3,LC,_,PB,Sz⟩:=BK.o.uZ.at Bl;simp only[Option.some.injEq,Addr.mk.injEq,and_true]at LC;obtain⟨rfl,rfl⟩:=LC;rw[Nat.zero_add]at PB Sz;have Dy:=ae (BK.o.set Zr.o l1 l2);have SH:W.heap.size<=K:=by have:=NK.o.size;omega
     have XP:Ext W ((wc.setCell ⟨K,u*2,none⟩ (.int .i64 l1)).setCell ⟨K,u*2+1,none⟩ (.int .i64 l2)):=(XC.setCell (p:=⟨K,u*2,none⟩) SH _).setCell (p:=⟨K,u*2+1,none⟩) SH _;obtain⟨wp,JN⟩:=b9 ((wc.setCell ⟨K,u*2,none⟩ (.int .i64 l1)).setCell ⟨K,u*2+1,none⟩ (.int .i64 l2));rw[<-JN]at Dy XP;rw[<-Lb.o]at Dy;go_upto_region 16 with fail;rw[<-JN];clear JN PB Sz Kd g0 g1 XC;obtain⟨q0,q1,q2,qf⟩:=CM.o wp XP;obtain⟨z,z0,z1,z2,J⟩:=xD.o wp XP 1 (.slice (some ⟨K,0,none⟩) E p10) (.slice none 0 0);have HZ:=ae z;have C0:=ae J;clear z J;go_wp2_with fail;refine bodyPost_ret (v:=.agg #[.int .i64 1,.slice (some ⟨K,0,none⟩) E p10,.slice none 0 0]) (by simp[results,Tryz.results26,go_sem,z0,z1,z2]) rfl ⟨⟨_,_,_,_,_,_,by rw[HC.o],fun _=>(Dy.o.mono (j1 NK.o.size)).keep fun k hk=>C0.o k (by have:=(Dy.o.lt k hk).1;have:=NK.o.size;omega)⟩,HZ.o⟩
  ·have HC:=ae (show dP true g ⟨rs,rX,O,rr,(G,I),rp⟩=3 by unfold dP;rw[if_neg e8,if_pos hs]);have G8:(rs != 1)=true:=by simp[hs]
   have X4':=X4.o;obtain⟨q0,q1,q2,qf⟩:=CM.o w4 X4';obtain⟨z,z0,z1,z2,J⟩:=xD.o w4 X4' 3 (.slice none 0 0) (.slice none 0 0);have HZ:=ae z;have C0:=ae J;clear z J;go_wp2_with fail;refine bodyPost_ret (v:=.agg #[.int .i64 3,.slice none 0 0,.slice none 0 0]) (by simp[results,Tryz.results26,go_sem,z0,z1,z2]) rfl ⟨⟨_,_,_,_,_,_,by rw[HC.o],fun h=>by rw[HC.o]at h;cases h⟩,HZ.o⟩
end Go.Proofs.YtdadoignenffgaaGreatDoor
