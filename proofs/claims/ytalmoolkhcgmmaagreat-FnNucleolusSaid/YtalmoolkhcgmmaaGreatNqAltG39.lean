import Derived.Test.YtalmoolkhcgmmaaGreatNqAltG24
import Derived.Outline
import Derived.Deep.CutBlock
set_option linter.unusedVariables false
set_option linter.unusedSimpArgs false
namespace Go.Proofs.YtalmoolkhcgmmaaGreat
set_option maxHeartbeats 16000000
set_option maxRecDepth 100000
open Go.RowKit
theorem xS{w:World}{g:Nat}{a b c d e f h:Value}{t:TypeId}(hb:w.heap[g]?=some (.cells #[a,b,c,d,e,f,h] t (0,0))):
 w.cell? ⟨g,0,none⟩=some a/\w.cell? ⟨g,1,none⟩=some b/\w.cell? ⟨g,2,none⟩=some c/\w.cell? ⟨g,3,none⟩=some d/\w.cell? ⟨g,4,none⟩=some e/\w.cell? ⟨g,5,none⟩=some f/\w.cell? ⟨g,6,none⟩=some h/\∀k,w.frozen? ⟨g,k,none⟩=false:=by
 refine⟨?_,?_,?_,?_,?_,?_,?_,fun k=>frozen_of_row w g k _ _ hb⟩<;>rw[cell_of_row w g _ _ _ _ hb]<;>rfl
theorem Ext.yX{w w':World}(h:Ext w w'){b:Nat}(hb:w.heap.size<=b)(x0 x1 x2 J x4 I G:Value):
 Ext w (((((((w'.setCell ⟨b,0,none⟩ x0).setCell ⟨b,1,none⟩ x1).setCell ⟨b,2,none⟩ x2).setCell ⟨b,3,none⟩ J).setCell ⟨b,4,none⟩ x4).setCell ⟨b,5,none⟩ I).setCell ⟨b,6,none⟩ G) :=
 ((((((h.setCell (p:=⟨b,0,none⟩) hb _).setCell (p:=⟨b,1,none⟩) hb _).setCell (p:=⟨b,2,none⟩) hb _).setCell (p:=⟨b,3,none⟩) hb _).setCell (p:=⟨b,4,none⟩) hb _).setCell (p:=⟨b,5,none⟩) hb _).setCell (p:=⟨b,6,none⟩) hb _
theorem bL(w':World){b k:Nat}(h:k≠b)(x0 x1 x2 J x4 I G:Value):
 (((((((w'.setCell ⟨b,0,none⟩ x0).setCell ⟨b,1,none⟩ x1).setCell ⟨b,2,none⟩ x2).setCell ⟨b,3,none⟩ J).setCell ⟨b,4,none⟩ x4).setCell ⟨b,5,none⟩ I).setCell ⟨b,6,none⟩ G).heap[k]?=w'.heap[k]?:=by
 rw[heap_setCell_other _ _ _ _ h,heap_setCell_other _ _ _ _ h,heap_setCell_other _ _ _ _ h,heap_setCell_other _ _ _ _ h,heap_setCell_other _ _ _ _ h,heap_setCell_other _ _ _ _ h,heap_setCell_other _ _ _ _ h]
structure Ki(w:World)(base g:Nat)(s:Int)(vx vy vr:Value)(p q piv:Int)(Y:j6):Prop where
 box:w.heap[g]?=some (.cells #[.int .i64 s,vx,vy,vr,.int .i64 p,.int .i64 q,.int .i64 piv] 56 (0,0))
 hg:base<=g
 y:l8 w base vy Y
section
variable{w:World}{base g:Nat}{s:Int}{vx vy vr:Value}{p q piv:Int}{Y:j6}
theorem Ki.ext{w':World}(h:Ki w base g s vx vy vr p q piv Y)(hx:Ext w w'):Ki w' base g s vx vy vr p q piv Y:=⟨(hx.block _ (lt_of_block h.box)).trans h.box,h.hg,h.y.ext hx⟩
theorem Ki.TV{w1 G:World}(h:Ki w base g s vx vy vr p q piv Y)(hx:Ext w w1)(hg:w1.grownBy G vy.ownBlock):G.heap[g]?=some (.cells #[.int .i64 s,vx,vy,vr,.int .i64 p,.int .i64 q,.int .i64 piv] 56 (0,0)) :=
 (hg.block g (lt_of_block (h.ext hx).box) (av (h.ext hx).y (h.ext hx).box (by decide))).trans (h.ext hx).box
theorem Ki.Q6{w1 G:World}(h:Ki w base g s vx vy vr p q piv Y)(hx:Ext w w1){I:Value}{J:j6}(zF:w1.grownBy G vy.ownBlock)(ho:l8 G base I J):
 Ki (G.setCell ⟨g,2,none⟩ I) base g s vx I vr p q piv J:=by
 have yR:=h.TV hx zF;refine⟨?_,h.hg,ec ho yR (by decide)⟩;have:=heap_setCell_same G g 2 _ _ I yR;exact this
end
theorem Nf(B:j9)(cs:j6){n i z:Nat}{e d:k5}{G:Bool}{bi:Int}(hz:z=n+i)(he:cs[z]?.getD (0,0)=e)(hd:xy (1,1) e=(d,G))(hb:B[i]?.getD 0=bi):fq B (1,1) cs n i=if G=true then some (Ac bi d) else none:=by
 unfold fq;rw[<-hz,he,hd,hb]
def SolR(w:World)(base:Nat)(e:Ending)(o:Option AT):Prop:=match o with
 | some r=>∃xa xn xc ya yn yc ra rn rc,e=.returned (.tuple #[A6 r xa xn xc ya yn yc ra rn rc,.bool true])/\Bq w base xa xn xc ya yn yc ra rn rc r
 | none=>∃r xa xn xc ya yn yc ra rn rc,e=.returned (.tuple #[A6 r xa xn xc ya yn yc ra rn rc,.bool false])
section
variable{w:World}{a:j8}{na ca:Nat}{b:j8}{nb cb:Nat}{c:j8}{nc cc:Nat}{A:j7}{B:j9}{C:j6}
theorem PB(h:Cz w a na ca b nb cb c nc cc A B C)(ok:xF A B C=true):
 Calls Tryz.prog 62 #[C8 a na ca b nb cb c nc cc] w fun e w'=>SolR w' w.heap.size e (zf A B C)/\Ext w w':=by
 have TI:=ae (fT ok);obtain⟨r1,r2,r3,r4,r5,r6⟩:=cI h ok;subst r3;have wI:=(Ext.alloc w (bE a nb ca b nb cb c nc cc)).trans (Ext.alloc _ (.cells #[.int .i64 0,.slice none 0 0,.slice none 0 0,.slice none 0 0,.int .i64 0,.int .i64 0,.int .i64 0] 56));obtain⟨W,hW⟩:=b8 ((w.alloc (bE a nb ca b nb cb c nc cc)).alloc (.cells #[.int .i64 0,.slice none 0 0,.slice none 0 0,.slice none 0 0,.int .i64 0,.int .i64 0,.int .i64 0] 56));rw[<-hW]at wI;have wM:=ae wI;have H:=ae (h.ext wI);have z7:=ae ok;have yA:=ae (show W.heap[w.heap.size+1]?=some (.cells #[.int .i64 0,.slice none 0 0,.slice none 0 0,.slice none 0 0,.int .i64 0,.int .i64 0,.int .i64 0] 56 (0,0))by rw[hW];exact ak _ _ _ e7);have wQ:=ae (show W.heap[w.heap.size]?=some (.cells #[.slice a nb ca,.slice b nb cb,.slice c nc cc] 52 (0,0))by rw[hW,bX _ _ _ e7];exact ak _ _ _ rfl);have Bc:=ae (show W.heap.size=w.heap.size+1+1 by rw[hW];simp);have Ke:=h.a.o3;have ES:=h.a.l9;have zN:=h.b.o3;have zx:=h.b.l9;have yq:=h.c.o3;have AZ:=h.c.l9;have BL:=ae h.a.hlen;have y4:=ae h.b.hlen;have z8:=ae h.c.hlen;clear h wI ok r4 r5 r6;have zW:=ae (fun(w':World) (hx:Ext W w')=>nX (H.o.ext hx) z7.o);go_enter Tryz.func62,Tryz.ntmps62
 go_upto_region 1 with fail;rw[<-hW];clear hW;have p1:=aH wQ.o;have p2:=aI wQ.o;have k7:Ext W W.drew:=Ext.drew W;have k7:Ext W W.drew:=Ext.drew W;have xI:=k7;have k8:=ae (fun(w':World) (h:Ext W w')=>(⟨h.k6 p1,h.k6 p2,h⟩:w'.cell? ⟨w.heap.size,1,none⟩=some (.slice b nb cb)/\w'.cell? ⟨w.heap.size,2,none⟩=some (.slice c nc cc)/\Ext W w'))
 go_region_held3 (fun w'=>w'.cell? ⟨w.heap.size,1,none⟩=some (.slice b nb cb)/\w'.cell? ⟨w.heap.size,2,none⟩=some (.slice c nc cc)/\Ext W w')
  (with_reducible exact k8.o _ k7)
  (first
    | fail)
 clear k8 xI;have X1:=ae k7;clear k7 p1 p2;have p0:=au (X1.o.blk wQ.o);have p1:=aH (X1.o.blk wQ.o);have p2:=aI (X1.o.blk wQ.o);go_wp2_with fail;refine(zW.o _ X1.o).mono ?_;rintro e w1 ⟨⟨va,vb,vs,rfl,ho⟩,hx⟩;obtain⟨a7,n7,c7,rfl,E'⟩:=ho.a.var;obtain⟨a8,n8,c8,rfl,FT⟩:=ho.b.var;obtain⟨E,hE⟩:=b8 (w1.alloc (.cells #[.slice a7 n7 c7,.slice a8 n8 c8,.int .i64 (nc:Int),.int .i64 0,.bool false] 124));have zw:Ext w1 E:=by rw[hE];exact Ext.alloc _ _
 have RW:=ae (X1.o.trans hx);have XE:=ae zw
 have HS:=ae (show dD E w1.heap.size a7 n7 c7 a8 n8 c8 vs (bF A B nc) 0 false from
  ⟨by rw[hE];exact ak _ _ _ rfl,(ho.ext zw).mono (Nat.zero_le _)⟩)
 have U9:=jq nc b9
 have HZ:=ae (show o8 (E.alloc (.cells (bw (List.replicate nc 0)) 3)) 0 (.slice (some ⟨E.heap.size,0,none⟩) nc nc) (List.replicate nc 0)from
  (show Row (E.alloc (.cells (bw (List.replicate nc 0)) 3)) E.heap.size 3 (List.replicate nc 0)from heap_alloc_new _ _).own (Nat.zero_le _) e7 b9)
 obtain⟨F,hF⟩:=b8 (E.alloc (.cells (bw (List.replicate nc 0)) 3));have XF:=ae (show Ext E F by rw[hF];exact Ext.alloc _ _);rw[<-hF]at HZ;clear ho hx zw p0 p1 p2;go_upto_region 3 with fail;rw[<-hE];clear hE;go_upto_region 4 with fail;rw[<-hF];clear hF U9
 have HZR:=ae (show dU (List.replicate nc 0)=List.replicate nc ((0:Int),(1:Int))by
  rw[fg (by intro x hx;rw[List.mem_replicate]at hx;omega)];simp[aw])
 have R0:=ae (gX HZ.o.ints b9);rw[HZR.o]at R0;go_wp2_with fail;refine R0.o.mono ?_;rintro e w3 ⟨⟨v3,rfl,zS⟩,hx⟩;obtain⟨a3,n3,c3,rfl,R7⟩:=zS.var;have G0:n3<=70:=by have:=R7.o;rw[List.length_replicate]at this;omega
 have X3:=ae (XF.o.trans hx);have HZ3:=ae (HZ.o.ext hx);have Cq:=ae (oQ zS.wK 1 nb b9 b9);clear zS hx R7;go_wp2_with fail;refine Cq.o.mono ?_;rintro e w4 ⟨⟨v4,rfl,Ci⟩,hx⟩;obtain⟨a4,n4,c4,rfl,YW⟩:=Ci.var;have X4:=ae (X3.o.trans hx);have HZ4:=ae (HZ3.o.ext hx);have OH:=ae (HS.o.ext X4.o);have Er:=ae (Q' OH.o (show xY nc nb _ (bF A B nc)by have h1:=TI.o;rw[z8.o,BL.o]at h1;exact h1) b9 b9 b9 Ci);have J0:=ae (show List.replicate nc ((0:Int),(1:Int))++List.replicate nb (1,1)=bM C.length B.length by unfold bM;rw[z8.o,y4.o]);clear Ci hx YW;go_wp2_with fail;refine Er.o.mono ?_;rintro e w5 ⟨Dr,Q5,Sy,Q4,RU,TY,RT,OY,Og⟩;obtain⟨o1,Jx⟩:=b8 (aJ (bM C.length B.length) 1000 (bF A B C.length));have Mr:aJ (List.replicate nc ((0:Int),(1:Int))++List.replicate nb (1,1)) (1000-0) (bF A B nc)=o1:=by rw[Jx,J0.o,z8.o]
 rw[Mr]at Og;have xC:=ae Jx;have HZ5:=ae (HZ4.o.mod Dr OH.o.box);have X5:=ae (show Ext w1 w5 from Dr.ext (XE.o.trans X4.o) (Nat.le_refl _));clear Mr Jx;cases o1 with
 | none =>
   obtain⟨v5,col5,t5,n5,rfl,A8⟩:=Og;have Ep:=ae A8;clear A8 Dr;obtain⟨c0,c1,c2,c3',Z9,R⟩:=Ep.o.cells;have DO:=ae (show zf A B C=none by unfold zf;rw[<-xC.o];rfl);have T7:=ae ((RW.o).trans X5.o);obtain⟨l0,l1,l2,l3,l4,l5,l6,lf⟩:=xS (T7.o.blk yA.o);go_wp2_with fail;refine bodyPost_ret (v:=.tuple #[A6 (be 0) none 0 0 none 0 0 none 0 0,.bool false]) (by simp[results,Tryz.results62,go_sem,l0,l1,l2,l3,l4,l5,l6,lf,be]) rfl ⟨?_,(wM.o.trans T7.o).yX (Nat.le_succ _) _ _ _ _ _ _ _⟩;rw[DO.o];exact⟨be 0,none,0,0,none,0,0,none,0,0,rfl⟩
 | some J =>
   obtain⟨v5,rfl,FE,A8⟩:=Og;obtain⟨a5,n5,c5,rfl,A9⟩:=FE.var;have Ep:=ae A8;have xL:=ae FE;have hinv:=dJ TI.o xC.o.symm;have R2:=ae (show xY nc nb _ J.t by have h1:=hinv.1;rw[z8.o,BL.o]at h1;exact h1);have HQC:=ae (dT R2.o hinv.2.1).1;have hql:=hinv.2.2;clear A8 FE Dr hinv;obtain⟨u,hu⟩:=b8 (nc+nb);have HU:=ae hu;obtain rfl:n5=u+1:=by have h1:=A9.o;rw[HQC.o.1]at h1;omega
   have hu78:u<=78:=by omega
   have D7:((u+1:Nat):Int)-1=(u:Int):=by omega
   obtain⟨zb,xJ,lx,ly,Bt,H8,y9,CE⟩:=xL.o.wK.at (show u<u+1 by omega);subst Bt;have WN:=xL.o.wK.o3;have WM:=xL.o.wK.l9;have EI:=ae (show J.costs[C.length+B.length]?.getD (0,0)=(lx,ly)by rw[z8.o,y4.o,<-HU.o];exact H8);obtain⟨c0,c1,c2,c3',Z9,R⟩:=Ep.o.cells;have T7:=ae ((RW.o).trans X5.o);clear H8 hu;by_cases yP:lx<0
   ·have Es:=ae (show zf A B C=(runT (fq B (1,1) J.costs C.length) B.length).map fun Y=>⟨2,[],Y,[],(0,0),1000-J.left⟩by
     unfold zf;rw[<-xC.o];simp only[Option.bind_some];rw[EI.o,if_pos yP])
    obtain⟨Z,B1⟩:∃p:Int,p=((1000-J.left:Nat):Int):=⟨_,rfl⟩;rw[<-B1]at c3';have QE:=ae (show(1000:Int)-(J.left:Int)=Z by rw[B1];omega);clear B1;obtain⟨E9,Z1⟩:=b8 (w5.alloc (.cells #[.int .i64 2,.slice none 0 0,.slice none 0 0,.slice none 0 0,.int .i64 0,.int .i64 0,.int .i64 Z] 56));have X9:=ae (show Ext w5 E9 by rw[Z1];exact Ext.alloc _ _)
    have ON:=ae (show Ki E9 w5.heap.size w5.heap.size 2 (.slice none 0 0) (.slice none 0 0) (.slice none 0 0) 0 0 Z []by
     rw[Z1];exact⟨ak _ _ _ rfl,Nat.le_refl _,l8.nil _ _⟩)
    go_upto_region 9 with fail;rw[<-Z1];clear Z1 c0 c1 c2 c3' Z9 R y9 CE;go_wp2_with fail
    go_loopg [64] nb (fun gk ii wr=>∃(k:Nat) (vy:Value) (Y:j6),b7 (gk+k=nb)/\ii=.int .i64 (k:Int)/\b7 (runT (fq B (1,1) J.costs C.length) k=some Y)/\b7 (Ki wr w5.heap.size w5.heap.size 2 (.slice none 0 0) vy (.slice none 0 0) 0 0 Z Y)/\b7 (Ext w5 wr))
    case atStart=>exact⟨0,_,[],ae b9,rfl,ae rfl,ON,X9⟩
    case round =>
     obtain⟨g1,r7⟩:=b8 gk;subst r7;obtain⟨o7,o6⟩:=b8 wr;subst o6;obtain⟨k,vy,Y,HK,rfl,HY,HL,HX⟩:=hrel;have Rj:=HX.o.size;have Kh:=ae (T7.o.trans HX.o);by_cases hlt:k<nb
     ·obtain⟨z,hz⟩:=b8 (nc+k);have V2:z<u+1:=by have:=HU.o;omega
      obtain⟨zb',KA,ex,ey,D0,IZ,yT,B3⟩:=(xL.o.ext HX.o).wK.at V2;simp only[Option.some.injEq,Addr.mk.injEq,and_true]at D0;obtain⟨rfl,rfl⟩:=D0;obtain⟨d1,d2,DH,hdd⟩:∃x y ok,xy (1,1) (ex,ey)=((x,y),ok):=⟨_,_,_,rfl⟩;have CV:=ae hdd;obtain⟨bb,AO,hba,AR⟩:=(H.o.ext Kh.o).b.at hlt;subst hba;obtain⟨bi,Ck⟩:=b8 (B[k]?.getD 0);rw[<-Ck]at AR;have GU:=ae Ck;have JX:=ae (show fq B (1,1) J.costs C.length k=if DH=true then some (Ac bi (d1,d2)) else none from Nf B J.costs (by rw[z8.o];exact hz) IZ hdd Ck.symm);have p1:=aH (Kh.o.blk wQ.o);have PE:IntKind.i64.wrap ((nc:Int)+(k:Int))=(z:Int):=by rw[IntKind.wrap_i64];omega
      have L3:(0:Int)<=(z:Int):=by omega
      have L2:(z:Int)<((u+1:Nat):Int):=by omega
      have hz2':(z:Int)<(u:Int)+1:=by omega
      clear IZ hdd Ck hz;go_upto_region 12 with fail;go_upto_region 12 with fail
      go_cut [12,13] (fun sx so wx=>∃g:Nat,sx=.pointer (some ⟨g,0,none⟩)/\so=.bool DH/\b7 (aj o7 wx g d1 d2))
      case first =>
       have k7:Ext o7 o7.drew:=Ext.drew o7;have xI:Ext o7 (o7.alloc (.cells #[.int .i64 0,.int .i64 0] 46)).drew:=(Ext.alloc _ _).trans (Ext.drew _);have k8:=ae (fun(w':World) (h:Ext o7 w')=>(⟨h.k6 yT,h.k6 B3,h⟩:w'.cell? ⟨zb,xJ+z*2,none⟩=some (.int .i64 ex)/\w'.cell? ⟨zb,xJ+z*2+1,none⟩=some (.int .i64 ey)/\Ext o7 w'))
       go_region_held3 (fun w'=>w'.cell? ⟨zb,xJ+z*2,none⟩=some (.int .i64 ex)/\w'.cell? ⟨zb,xJ+z*2+1,none⟩=some (.int .i64 ey)/\Ext o7 w')
        (first
          | with_reducible exact k8.o _ k7
          | with_reducible exact k8.o _ xI
          | with_reducible exact k8.o _ ((k7.setCell (by first|(simp;done)|(simp;omega)) _).setCell (by first|(simp;done)|(simp;omega)) _)
          | with_reducible exact k8.o _ (k7.trans (Ext.alloc _ _))
          | with_reducible exact k8.o _ (r9.put _ _).ext)
        (first
          | (go_at_call 18
             (with_reducible refine(cG 1 _).mono ?_)
             rintro e w7 ⟨rfl,yV⟩
             first|(with_reducible have r9:=aj.grow r9 yV)|(with_reducible have r9:=aj.xu yV)|(with_reducible have r9:=aj.xA k7 yV)|skip
             first|(have BQ:=r9.c0;have BP:=r9.c1;have C3:=r9.free)|skip
             have k7:Ext o7 w7:=by first|with_reducible exact k7.trans yV|with_reducible exact xI.trans yV|with_reducible exact(k7.trans (Ext.alloc _ _)).trans yV
             have zr:=k7.size)
          | (go_at_call 58
             (with_reducible refine(jB 1 1 ex ey _).mono ?_)
             rw[CV.o];rintro e w8 ⟨rfl,zl⟩
             first|(with_reducible have r9:=aj.grow r9 zl)|(with_reducible have r9:=aj.xu zl)|(with_reducible have r9:=aj.xA k7 zl)|skip
             first|(have BQ:=r9.c0;have BP:=r9.c1;have C3:=r9.free)|skip
             have k7:Ext o7 w8:=by first|with_reducible exact k7.trans zl|with_reducible exact xI.trans zl|with_reducible exact(k7.trans (Ext.alloc _ _)).trans zl
             have zr:=k7.size)
          | fail)
       all_goals(go_wp2_with fail;go_meet;first|exact⟨_,rfl,rfl,ae (r9.put _ _)⟩|exact⟨_,rfl,rfl,ae (aj.new k7 _ _)⟩|exact⟨_,rfl,rfl,ae (aj.new' k7 _ _ e7)⟩)
      obtain⟨g,rfl,rfl,U⟩:=hcut;have Ja:=ae (Kh.o.trans U.o.ext);clear PE L3 L2 hz2' yT B3 p1 AR;cases DH
      ·have DO:=ae (show runT (fq B (1,1) J.costs C.length) B.length=none from fj HY.o (by rw[JX.o];rfl) (by rw[y4.o];exact hlt));obtain⟨l0,l1,l2,l3,l4,l5,l6,lf⟩:=xS (Ja.o.blk yA.o);go_wp2_with fail;refine bodyPost_ret (v:=.tuple #[A6 (be 0) none 0 0 none 0 0 none 0 0,.bool false]) (by simp[results,Tryz.results62,go_sem,l0,l1,l2,l3,l4,l5,l6,lf,be]) rfl ⟨?_,(wM.o.trans Ja.o).yX (Nat.le_succ _) _ _ _ _ _ _ _⟩;rw[Es.o,DO.o];exact⟨be 0,none,0,0,none,0,0,none,0,0,rfl⟩
      ·have p1:=aH (Ja.o.blk wQ.o);obtain⟨bb',Yh,MT,AR⟩:=(H.o.ext Ja.o).b.at hlt;simp only[Option.some.injEq,Addr.mk.injEq,and_true]at MT;obtain⟨rfl,rfl⟩:=MT;rw[<-GU.o]at AR;have HL2:=ae (HL.o.ext U.o.ext);have xZ:=ae (HX.o.trans U.o.ext);have HY2:=ae (dB (x:=Ac bi (d1,d2)) HY.o (by rw[JX.o];rfl));obtain⟨e1,Cf⟩:∃e1,Ac bi (d1,d2)=(e1,d2):=by unfold Ac wR;split<;>exact⟨_,rfl⟩
       have CA:=ae Cf;have Tt:=aQ (p:=(d1,d2)) (by have h1:=(fW (a:=(1,1)) (b:=(ex,ey)) (by rw[CV.o])).2.2.1;rw[CV.o]at h1;exact h1);have I1:-9223372036854775807<=d1:=by have:=Tt.2.2.1;simp only at this;omega
       have FI:d1<=9223372036854775807:=by have:=Tt.2.2.2;simp only at this;omega
       clear Cf Tt
       go_upto_if 86 with fail
       go_cut [6] (fun s6 wx=>s6=.pointer (some ⟨w1.heap.size,0,none⟩)/\b7 (aj o7 wx g e1 d2))
       case first =>
        have g0:=U.o.c0;have g1':=U.o.c1;have gf:=U.o.free;by_cases ER:bi<0
        ·have B3:e1=-d1:=by have:=CA.o;unfold Ac wR at this;rw[if_pos ER]at this;exact(congrArg Prod.fst this).symm
         subst B3;rw[show decide (bi<0)=true from decide_eq_true ER];go_wp2_with fail;refine(eM d1 d2 _ I1 FI).mono ?_;rintro e w9 ⟨rfl,hx⟩;have zV:=ae (U.o.grow hx);clear hx g0 g1' gf;have g0:=zV.o.c0;have g1':=zV.o.c1;have gf:=zV.o.free;go_wp2_with fail;go_meet;exact⟨rfl,ae (zV.o.put _ _)⟩
        ·have B3:e1=d1:=by have:=CA.o;unfold Ac at this;rw[if_neg b9]at this;exact(congrArg Prod.fst this).symm
         subst B3;rw[show decide (bi<0)=false from decide_eq_false b9];go_wp2_with fail;go_meet;exact⟨rfl,U⟩
       obtain⟨rfl,zE⟩:=hcut;have CU:=ae (HL.o.ext zE.o.ext);have xj:=ae (HX.o.trans zE.o.ext);have g0:=zE.o.c0;have g1':=zE.o.c1;have y2:=(xS CU.o.box).2.2.1;have D':=zE.o.lt;have hlb:=lt_of_block CU.o.box;have CY:=xj.o.size;have Kj:=ae (cU HY.o);clear p1 AR
       go_wp2_with (first
        | (at_builtin;refine aG rfl _ _ rfl w5.heap.size vy _ rfl (CU.o.y.ext (Ext.alloc _ _)) _ 1 _ [(e1,d2)] rfl (r8.one' _ _ _ _ _ e7) (by rw[Kj.o];omega) (by simp;omega) ?_;intro v9 w9 ho hg l7;obtain⟨a9,n9,q9,rfl,Kr⟩:=ho.var;have Ew:=ae ho;have UG:=ae hg;have zH:=CU.o.TV (Ext.alloc _ _) hg;have Vp:=(xS zH).2.2.1;have Vn:=(xS zH).2.2.2.2.2.2.2;have Kf:Ext w5 w9:=al (Ext.trans xj.o (Ext.alloc _ _)) hg (fun j hj=>(CU.o.y.lt j hj).1);clear ho hg l7 zH))
       have JU:=ae (CU.o.Q6 (Ext.alloc _ _) UG.o Ew.o);have F':=ae (Kf.setCell (p:=⟨w5.heap.size,2,none⟩) (Nat.le_refl _) (.slice a9 n9 q9))
       go_roundg (g1-1)
       case measure=>have:=HK.o;omega
       case rel=>exact⟨k+1,_,_,ae (j4 HK.o),by go_num,HY2,ae (by rw[CA.o];exact JU.o),F'⟩
     ·have xQ:nb=k:=by have:=HK.o;omega
      subst xQ;obtain⟨ay,ny,cy,rfl,HNY⟩:=HL.o.y.var;obtain⟨m0,m1,m2,m3,m4,m5,m6,mf⟩:=xS HL.o.box;obtain⟨l0,l1,l2,l3,l4,l5,l6,lf⟩:=xS (Kh.o.blk yA.o);have E7:=ae (show zf A B C=some ⟨2,[],Y,[],(0,0),Z⟩by rw[Es.o,y4.o,HY.o,Option.map_some,QE.o]);have Ds:=lt_of_block HL.o.box;go_wp2_with fail;refine bodyPost_ret (v:=.tuple #[A6 ⟨2,[],Y,[],(0,0),Z⟩ none 0 0 ay ny cy none 0 0,.bool true]) (by simp[results,Tryz.results62,go_sem,l0,l1,l2,l3,l4,l5,l6,lf]) rfl ⟨?_,(wM.o.trans Kh.o).yX (Nat.le_succ _) _ _ _ _ _ _ _⟩;rw[E7.o];refine⟨none,0,0,ay,ny,cy,none,0,0,rfl,?_,?_,?_⟩
      ·exact fun W _=>r8.DY W
      ·exact(HL.o.y.keep fun i hi=>bL _ (by have:=(HL.o.y.lt i hi).1;have:=T7.o.size;have:=Bc.o;omega) _ _ _ _ _ _ _).BD (by have:=wM.o.size;have:=RW.o.size;have:=X5.o.size;omega)
      ·exact fun W _=>r8.DY W
   ·have Es:=ae (show zf A B C=(br C.length (J.t,J.left) B.length).bind fun s=>(aJ (bK C B.length) s.2 s.1).map fun p2 =>
     if 0<=p2.wX then⟨3,(xV p2.t).take C.length,[],ze p2.t C.length p2.wX.toNat B.length,(0,0),1000-p2.left⟩
     else⟨1,(xV p2.t).take C.length,(List.range B.length).map (dm B p2.costs C.length),[],wR (p2.costs[C.length+B.length]?.getD (0,0)),1000-p2.left⟩by
     unfold zf;rw[<-xC.o];simp only[Option.bind_some];rw[EI.o,if_neg b9])
    have Hc:=ae (show dD w5 w1.heap.size _ _ _ _ _ _ OY J.t (1000-J.left) false from Ep.o);have HD0:=ae (show br nc (J.t,J.left) 0=some (J.t,J.left)from rfl);have hlt0:=lt_of_block Hc.o.box;have YG:=ae hql;go_upto_region 20 with fail;clear c0 c1 c2 c3' Z9 R y9 CE WN WM hql;go_wp2_with fail
    go_loopg [98] nb (fun gk ii wr=>∃(k:Nat) (tt:Tb) (lf:Nat) (ra:j8) (rn rc:Nat) (ba:j8) (bn bc:Nat) (vs:List Value),b7 (gk+k=nb)/\ii=.int .i64 (k:Int)/\b7 (br nc (J.t,J.left) k=some (tt,lf))/\b7 (dD wr w1.heap.size ra rn rc ba bn bc vs tt (1000-lf) false)/\b7 (Mod w1.heap.size w5 wr))
    case atStart=>exact⟨0,_,_,_,_,_,_,_,_,_,ae b9,rfl,HD0,Hc,ae (Mod.refl _ _)⟩
    case round =>
     obtain⟨g1,r7⟩:=b8 gk;subst r7;obtain⟨o7,o6⟩:=b8 wr;subst o6;obtain⟨k,tt,lf,ra,rn,rc,ba,bn,bc,vs,HK,rfl,HD,Eo,HM⟩:=hrel;have Rz:=fp (s:=(J.t,J.left)) R2.o HD.o;have HT:=ae (show xY nc nb _ tt from Rz.1);have Xf:lf<=1000:=by have h1:=Rz.2;have h2:=YG.o;simp only at h1;omega
     have hl1:=lt_of_block Eo.o.box;have Cu:=HM.o.size;obtain⟨c0,c1,c2,c3,c4,R⟩:=Eo.o.cells;have BF:rn=nb:=by have h1:=Eo.o.tb.Be.rows.hlen;have h2:=HT.o.len;omega
     have ER:bn=nb:=by have h1:=Eo.o.tb.Be.basis.hlen;have h2:=HT.o.zP;omega
     subst BF;subst ER;clear Rz;by_cases hlt:k<bn
     ·obtain⟨eb,xi,B2,yT⟩:=Eo.o.tb.Be.basis.at hlt;subst B2;obtain⟨b,hb⟩:=b8 (tt.basis[k]?.getD 0);rw[<-hb]at yT;have HB:=ae hb;clear hb;by_cases Ig:b<(nc:Int)
      ·have HD1:=ae (mI HD.o (by rw[<-HB.o];exact Ig));go_wp2_with fail
       go_roundg (g1-1)
       case measure=>have:=HK.o;omega
       case rel=>exact⟨k+1,tt,lf,_,_,_,_,_,_,_,ae (j4 HK.o),by go_num,HD1,Eo,HM⟩
      ·have Kq:=ae (show¬tt.basis[k]?.getD 0<nc by rw[<-HB.o];exact Ig);have Ay:=ae (Eo.o.tb.Be.rows.at hlt);have U5:=HT.o.row k hlt;have zT:=ae U5.1;have HLS:=ae HT.o.bounds;clear U5
       go_upto_block 4 with fail
       go_cut [] (fun wx=>Left w1.heap.size o7 wx ((br nc (J.t,J.left) (k+1)).map fun x=>(x.1,1000-x.2)))
       case first =>
        go_wp2_with fail
        go_loopg [112] nc (fun gk jj wr=>∃j:Nat,b7 (gk+j=nc)/\jj=.int .i64 (j:Int)/\b7 (((tt.row k).take j).all (fun c=>!Al c)=true)/\b7 (Ext o7 wr))
        case atStart=>exact⟨0,ae b9,rfl,ae rfl,ae (Ext.refl _)⟩
        case round =>
         obtain⟨g2,xK⟩:=b8 gk;subst xK;obtain⟨I,wT⟩:=b8 wr;subst wT;obtain⟨j,HJ,rfl,HA,xZ⟩:=hrel;clear c0 c1 c2 c3 c4 R yT;have Ax:=ae (Eo.o.ext xZ.o);obtain⟨c0,c1,c2,c3,c4,R⟩:=Ax.o.cells;by_cases zt:j<nc
         ·obtain⟨KD,By,ya,yn,yc,Hr,y9,o9⟩:=Ax.o.tb.Be.rows.at hlt;subst Hr;have Dn:yn=nc+bn+1:=by rw[<-o9.hlen];exact zT.o
          have xM:=o9.o3;have D1:=o9.l9;obtain⟨yb,xB,p,q,Da,xk,Gp,Gn⟩:=o9.at (show j<yn by omega);subst Da;have Vc:(j:Int)<(yn:Int):=by omega
          have yt:=ae (show(tt.row k)[j]?.getD (0,0)=(p,q)from xk);have HROW2:=ae o9;clear xk o9 Dn;go_upto_region 27 with fail
          go_cut [127] (fun s127 wx=>s127=.bool (Al (p,q))/\b7 (Ext I wx))
          case first =>
           cases h1:(p == 0)
           all_goals
            cases h2:(q == 1)
           all_goals
            have Sd:=ae (Pc p q);rw[h1,h2]at Sd;have k7:Ext I I.drew:=Ext.drew I;have xI:=k7;have k8:=ae (fun(w':World) (h:Ext I w')=>(⟨h.k6 c0,h.k6 y9,h.k6 Gp,h.k6 Gn,h⟩:w'.cell? ⟨w1.heap.size,0,none⟩=some (.slice (some ⟨KD,By,none⟩) bn rc)/\w'.cell? ⟨KD,By+k,none⟩=some (.slice (some ⟨yb,xB,none⟩) yn yc)/\w'.cell? ⟨yb,xB+j*2,none⟩=some (.int .i64 p)/\w'.cell? ⟨yb,xB+j*2+1,none⟩=some (.int .i64 q)/\Ext I w'))
            go_region_held3 (fun w'=>w'.cell? ⟨w1.heap.size,0,none⟩=some (.slice (some ⟨KD,By,none⟩) bn rc)/\w'.cell? ⟨KD,By+k,none⟩=some (.slice (some ⟨yb,xB,none⟩) yn yc)/\w'.cell? ⟨yb,xB+j*2,none⟩=some (.int .i64 p)/\w'.cell? ⟨yb,xB+j*2+1,none⟩=some (.int .i64 q)/\Ext I w')
             (with_reducible exact k8.o _ k7)
             (first
               | (go_at_call 18
                  (with_reducible refine(cG 0 _).mono ?_)
                  rintro e w7 ⟨rfl,yV⟩;have k7:Ext I w7:=k7.trans yV
                  have hs_w7:=k7.size)
               | fail)
            clear k8 xI;go_wp2_with fail;go_meet;exact⟨by rw[Sd.o];rfl,ae k7⟩
          obtain⟨rfl,Fp⟩:=hcut;have xj:=ae (xZ.o.trans Fp.o);have DL:=ae (Ax.o.ext Fp.o);clear c0 c1 c2 c3 c4 R y9 Gp Gn;cases hoff:Al (p,q)
          ·have Zs:=ae (pd (by rw[zT.o];omega) yt.o HA.o hoff);clear hoff;go_wp2_with fail
           go_roundg (g2-1)
           case measure=>have:=HJ.o;omega
           case rel=>exact⟨j+1,ae (j4 HJ.o),by go_num,Zs,xj⟩
          ·have Gf:=ae (mG HD.o (j4 Kq.o) zt (by rw[zT.o];omega) HA.o (by rw[yt.o];exact hoff) Xf);have DM:=ae (sV DL.o HT.o b9 b9 b9 (k:Int) (j:Int));clear hoff;go_wp2_with fail;refine DM.o.mono ?_;rintro e w6 ⟨rfl,ZL⟩;have Ku:=ae (Left.more xj.o ZL);clear ZL;go_wp2_with fail;go_meet;rw[Gf.o];exact Ku.o
         ·have Ah:nc=j:=by have:=HJ.o;omega
          have Gf:=ae (mH HD.o (j4 Kq.o) (by rw[Ah];exact HA.o));clear Ah;go_wp2_with fail;go_meet;rw[Gf.o];exact⟨Mod.of xZ.o,_,_,_,_,_,_,_,Ax.o⟩
       obtain⟨U',Hn,Hm,rc',ba',Iq,bc',vs',yi⟩:=hcut;have Y0:=ae (HM.o.trans U');clear U' c0 c1 c2 c3 c4 R yT;cases hd:br nc (J.t,J.left) (k+1)with
       | none =>
         rw[hd]at yi;obtain⟨t',n',Rl⟩:=yi;have HSF:=ae Rl;have DO:=ae (show zf A B C=none by rw[Es.o,z8.o,y4.o,ki hd b9];rfl);clear Rl hd;obtain⟨c0,c1,c2,c3,c4,R⟩:=HSF.o.cells;have Kh:=ae (Y0.o.ext T7.o (j4 RW.o.size));obtain⟨l0,l1,l2,l3,l4,l5,l6,SK⟩:=xS (Kh.o.blk yA.o);go_wp2_with fail;refine bodyPost_ret (v:=.tuple #[A6 (be 0) none 0 0 none 0 0 none 0 0,.bool false]) (by simp[results,Tryz.results62,go_sem,l0,l1,l2,l3,l4,l5,l6,SK,be]) rfl ⟨?_,(wM.o.trans Kh.o).yX (Nat.le_succ _) _ _ _ _ _ _ _⟩;rw[DO.o];exact⟨be 0,none,0,0,none,0,0,none,0,0,rfl⟩
       | some st =>
         obtain⟨t',f'⟩:=st;rw[hd]at yi;have Zg:=ae hd;have HSF:=ae (show dD wc w1.heap.size Hn Hm rc' ba' Iq bc' vs' t' (1000-f') false from yi);clear yi hd;obtain⟨c0,c1,c2,c3,c4,R⟩:=HSF.o.cells;go_wp2_with fail
         go_roundg (g1-1)
         case measure=>have:=HK.o;omega
         case rel=>exact⟨k+1,t',f',_,_,_,_,_,_,_,ae (j4 HK.o),by go_num,Zg,HSF,Y0⟩
     ·have xQ:bn=k:=by have:=HK.o;omega
      subst xQ;have Kh:=ae (HM.o.ext T7.o (j4 RW.o.size));have HZR1:=ae (HZ5.o.mod HM.o Hc.o.box);have p2:=aI (Kh.o.blk wQ.o);have UM:=ae (oQ (H.o.ext Kh.o).c 0 bn b9 b9);clear c0 c1 c2 c3 c4 R;go_wp2_with fail;refine UM.o.mono ?_;rintro e w6 ⟨⟨v6,rfl,Ta⟩,hx⟩;obtain⟨a6,n6,c6,rfl,Jg⟩:=Ta.var;have QB:=ae (Eo.o.ext hx);have X6:=ae (Kh.o.trans hx);have HZ6:=ae (HZR1.o.ext hx);have NM:=ae (Q' QB.o HT.o b9 b9 b9 Ta);have Sh:=ae (show C++List.replicate bn ((0:Int),(1:Int))=bK C B.length by unfold bK;rw[y4.o]);clear Ta hx Jg p2;go_wp2_with fail;refine NM.o.mono ?_;rintro e w7 ⟨Va,ra7,rn7,rc7,ba7,bn7,bc7,vs7,hp7⟩;obtain⟨o2,zY⟩:=b8 (aJ (bK C B.length) lf tt);have Mr:aJ (C++List.replicate bn ((0:Int),(1:Int))) (1000-(1000-lf)) tt=o2:=by rw[zY,Sh.o,show 1000-(1000-lf)=lf by omega]
      rw[Mr]at hp7;have yE:=ae zY;have HZ7:=ae (HZ6.o.mod Va QB.o.box);have X7:=ae (show Ext W w7 from Va.ext X6.o (j4 RW.o.size));clear Mr zY Va;cases o2 with
      | none =>
        obtain⟨v7,col7,t7,n7',rfl,GZ⟩:=hp7;have Iy:=ae GZ;clear GZ;obtain⟨c0,c1,c2,c3,c4,R⟩:=Iy.o.cells;have DO:=ae (show zf A B C=none by rw[Es.o,z8.o,y4.o,HD.o,Option.bind_some];simp only;rw[show bK C bn=bK C B.length by rw[y4.o],<-yE.o];rfl);obtain⟨l0,l1,l2,l3,l4,l5,l6,SK⟩:=xS (X7.o.blk yA.o);go_wp2_with fail;refine bodyPost_ret (v:=.tuple #[A6 (be 0) none 0 0 none 0 0 none 0 0,.bool false]) (by simp[results,Tryz.results62,go_sem,l0,l1,l2,l3,l4,l5,l6,SK,be]) rfl ⟨?_,(wM.o.trans X7.o).yX (Nat.le_succ _) _ _ _ _ _ _ _⟩;rw[DO.o];exact⟨be 0,none,0,0,none,0,0,none,0,0,rfl⟩
      | some q2 =>
        obtain⟨v7,rfl,Jw,GZ⟩:=hp7;obtain⟨a10,n10,c10,rfl,HN10⟩:=Jw.var;have Iy:=ae GZ;have FR:=ae Jw;have hinv:=dJ HT.o yE.o.symm;have Az:=ae hinv.1;have JM:=ae (dT Az.o hinv.2.1).1;have Ut:=ae hinv.2.2;have zU:=pg HT.o yE.o.symm
        have E7:=ae (show zf A B C=some (if 0<=q2.wX then⟨3,(xV q2.t).take nc,[],ze q2.t nc q2.wX.toNat bn,(0,0),1000-q2.left⟩
         else⟨1,(xV q2.t).take nc,(List.range bn).map (dm B q2.costs nc),[],wR (q2.costs[nc+bn]?.getD (0,0)),1000-q2.left⟩)by
         rw[Es.o,z8.o,y4.o,HD.o,Option.bind_some];simp only;rw[show bK C bn=bK C B.length by rw[y4.o],<-yE.o];rfl)
        have hb7:bn=bn7:=by have h1:=GZ.tb.Be.basis.hlen;have h2:=Az.o.zP;omega
        have hr7:bn=rn7:=by have h1:=GZ.tb.Be.rows.hlen;have h2:=Az.o.len;omega
        subst hb7;subst hr7;clear GZ Jw hinv;have W4:n10=u+1:=by have h1:=HN10.o;rw[JM.o.1]at h1;have:=HU.o;omega
        have He:=ae W4;have hr10a:=FR.o.wK.o3;have hr10b:=FR.o.wK.l9;clear W4;obtain⟨c0,c1,c2,c3,c4,R⟩:=Iy.o.cells;obtain⟨Z,B1⟩:∃p:Int,p=((1000-q2.left:Nat):Int):=⟨_,rfl⟩;have QE:=ae (show(1000:Int)-(q2.left:Int)=Z by have:=Ut.o;rw[B1];omega);have YH:=ae B1.symm;clear B1;have Uo:=ae (qB Iy.o.tb.Be b9 (Az.o.ok b9));have U2:(xV q2.t).length=nc+bn:=by
         unfold xV;rw[if_pos (Az.o.ok b9),iJ,Az.o.q8,Az.o.len];simp
        have Hb:=ae U2;clear U2;obtain⟨qc,U6⟩:=b8 q2.wX;rw[<-U6]at zU E7⊢;clear U6;go_wp2_with fail;refine Uo.o.mono ?_;rintro e w8 ⟨⟨v8,rfl,BN⟩,hx⟩;obtain⟨ax,nx,cx,rfl,NV⟩:=BN.var;have ZF:nx=nc+bn:=by have h1:=NV.o;rw[Hb.o]at h1;omega
        have GM:=ae hx;have QG:=ae BN;have OG:=ae (Iy.o.ext hx);have HZ8:=ae (HZ7.o.ext hx);have X8:=ae (X7.o.trans hx);have RA:=BN.wK.o3;have hcx2:=BN.wK.l9;have hcx3:(nc:Int)<=(cx:Int):=by omega
        clear BN hx ZF RA c0 c1 c2 c3 c4 R;have hs8:=X8.o.size
        rcases zU with hc|⟨O,hc,MD⟩
        ·subst hc
         have OI:=ae (show zf A B C=some ⟨1,(xV q2.t).take nc,(List.range bn).map (dm B q2.costs nc),[],wR (q2.costs[nc+bn]?.getD (0,0)),Z⟩by
          rw[E7.o,if_neg b9,QE.o])
         have Rc:IntKind.i64.wrap ((n10:Int)-1)=(u:Int):=by have:=He.o;rw[IntKind.wrap_i64];omega
         have HC8:=ae (FR.o.ext GM.o);obtain⟨yb,xB,vx,vy,Da,H8,AJ,xM⟩:=HC8.o.wK.at (show u<n10 by have:=He.o;omega);subst Da;have AD:=JM.o.2 u (j4 HU.o);rw[H8]at AD;have AD:=aQ AD;have PH:-9223372036854775807<=vx:=by have:=AD.2.2.1;simp only at this;omega
         have PG:vx<=9223372036854775807:=by have:=AD.2.2.2;simp only at this;omega
         have It:=ae (show wR (q2.costs[nc+bn]?.getD (0,0))=(-vx,vy)by rw[<-HU.o,H8];rfl);obtain⟨c0,c1,c2,c3,c4,R⟩:=OG.o.cells;rw[YH.o]at c3;have IN:(u:Int)<(n10:Int):=by have:=He.o;omega
         have Od:(0:Int)<=(u:Int):=by omega
         clear H8 AD;go_upto_region 47 with fail
         go_cut [21] (fun sx wx=>∃g:Nat,sx=.pointer (some ⟨g,0,none⟩)/\b7 (Cy w8 wx g 1 (.slice ax nc cx) (.slice none 0 0) (.slice none 0 0) (-vx) vy Z))
         case first =>
          have k7:Ext w8 w8.drew:=Ext.drew w8;have k8:=ae (fun(w':World) (h:Ext w8 w')=>(⟨h.k6 AJ,h.k6 xM,h.k6 c3,h⟩:w'.cell? ⟨yb,xB+u*2,none⟩=some (.int .i64 vx)/\w'.cell? ⟨yb,xB+u*2+1,none⟩=some (.int .i64 vy)/\w'.cell? ⟨w1.heap.size,3,none⟩=some (.int .i64 Z)/\Ext w8 w'));refine wp_region_held_drew (S:=(fun w'=>w'.cell? ⟨yb,xB+u*2,none⟩=some (.int .i64 vx)/\w'.cell? ⟨yb,xB+u*2+1,none⟩=some (.int .i64 vy)/\w'.cell? ⟨w1.heap.size,3,none⟩=some (.int .i64 Z)/\Ext w8 w')) e8 ?_ (fun k9=>?_)
          ·exact k8.o _ k7
          refine tk 0 ?_;refine tk 1 ?_;refine tk 2 ?_;refine tk 3 ?_;refine tk 4 ?_;refine tk 5 ?_;refine tk 6 ?_;refine tk 8 ?_;refine tk 9 ?_;refine tk 10 ?_;refine tk 11 ?_;refine wpAnyH_ready (rs:=[7,13]) e8 e7 ?_;refine AllReadyH.cons (o:=?_) ?_ (fun K hK=>?_) ?_;rotate_left
          ·simp only[gA,gB,gC];rfl
          ·
           go_simp
           (go_at_call 25;refine(eM vx vy _ PH PG).mono ?_;rintro e w9 ⟨rfl,L6⟩;have k7:=k7.trans L6)
           go_wp2_with fail;refine hK.out _ _ ?_ (fun k9=>?_)
           ·exact k8.o _ k7
           clear hK K
           try simp only[Act.put,sA,sB,sC]
           refine tk 12 ?_;have Cx:=Cy.new k7;refine rd (i:=13) (h:=fun K hK=>?_);go_simp;refine hK.out _ _ ?_ (fun k9=>?_)
           ·exact k8.o _ Cx.ext
           clear hK K
           try simp only[Act.put,sA,sB,sC]
           obtain⟨gz,Fj⟩:=b8 w9.heap.size;rw[<-Fj]at Cx;rw[<-Fj];obtain⟨WZ,TC⟩:=b8 (w9.alloc Ob);rw[<-TC]at Cx k9;rw[<-TC];clear TC Fj;have BQ:=Cx.c0;have BP:=Cx.c1;have Yk:=Cx.c2;have b3_:=Cx.c3;have b4_:=Cx.c4;have b5_:=Cx.c5;have b6_:=Cx.c6;have Yj:=Cx.free;refine rd (i:=14) (h:=fun K hK=>?_);go_simp;refine hK.out _ _ ?_ (fun k9=>?_)
           ·exact k8.o _ (Cx.put _ _ _ _ _ _ _).ext
           clear hK K
           try simp only[Act.put,sA,sB,sC]
           refine wpAnyH_done e8 ?_ _;go_wp2_with fail;go_meet;exact⟨_,rfl,ae (Cx.put _ _ _ _ _ _ _)⟩
          refine AllReadyH.cons (o:=?_) ?_ (fun K hK=>?_) AllReadyH.nil;rotate_left
          ·simp only[gA,gB,gC];rfl
          have Cx:=Cy.xu (Ext.refl (w8.alloc Ob).drew);go_simp;refine hK.out _ _ ?_ (fun k9=>?_)
          ·exact k8.o _ Cx.ext
          clear hK K
          try simp only[Act.put,sA,sB,sC]
          obtain⟨gz,Fj⟩:=b8 w8.heap.size;rw[<-Fj]at Cx;rw[<-Fj];obtain⟨WZ,TC⟩:=b8 ((w8.alloc Ob).drew);rw[<-TC]at Cx k9;rw[<-TC];clear TC Fj;refine rd (i:=7) (h:=fun K hK=>?_);go_simp
          (go_at_call 25;refine(eM vx vy _ PH PG).mono ?_;rintro e w9 ⟨rfl,L6⟩;have Cx:=Cx.grow L6;have k7:=Cx.ext)
          go_wp2_with fail;refine hK.out _ _ ?_ (fun k9=>?_)
          ·exact k8.o _ k7
          clear hK K
          try simp only[Act.put,sA,sB,sC]
          have BQ:=Cx.c0;have BP:=Cx.c1;have Yk:=Cx.c2;have b3_:=Cx.c3;have b4_:=Cx.c4;have b5_:=Cx.c5;have b6_:=Cx.c6;have Yj:=Cx.free;refine tk 12 ?_;refine rd (i:=14) (h:=fun K hK=>?_);go_simp;refine hK.out _ _ ?_ (fun k9=>?_)
          ·exact k8.o _ (Cx.put _ _ _ _ _ _ _).ext
          clear hK K
          try simp only[Act.put,sA,sB,sC]
          refine wpAnyH_done e8 ?_ _;go_wp2_with fail;go_meet;exact⟨_,rfl,ae (Cx.put _ _ _ _ _ _ _)⟩
         obtain⟨g,rfl,y4⟩:=hcut;have ON:=ae (show Ki wc w8.heap.size g 1 (.slice ax nc cx) (.slice none 0 0) (.slice none 0 0) (-vx) vy Z ((List.range 0).map (dm B q2.costs nc))from⟨y4.o.box,y4.o.hg,l8.nil _ _⟩);have Fp:=ae y4.o.ext;clear y4 c0 c1 c2 c3 c4 R AJ xM Rc;go_wp2_with fail
         go_loopg [219] bn (fun gk ii wr=>∃(k:Nat) (vY:Value),b7 (gk+k=bn)/\ii=.int .i64 (k:Int)/\b7 (Ki wr w8.heap.size g 1 (.slice ax nc cx) vY (.slice none 0 0) (-vx) vy Z ((List.range k).map (dm B q2.costs nc)))/\b7 (Ext w8 wr))
         case atStart=>exact⟨0,_,ae b9,rfl,ON,Fp⟩
         case round =>
          obtain⟨g2,xK⟩:=b8 gk;subst xK;obtain⟨I,wT⟩:=b8 wr;subst wT;obtain⟨k,vY,Bg,rfl,HL,HX⟩:=hrel;have Rj:=HX.o.size;have Qy:=ae (X8.o.trans HX.o);by_cases hlt:k<bn
          ·obtain⟨z,hz⟩:=b8 (nc+k);have V2:z<n10:=by have:=HU.o;have:=He.o;omega
           obtain⟨zb',KA,ex,ey,D0,IZ,yT,B3⟩:=(HC8.o.ext HX.o).wK.at V2;simp only[Option.some.injEq,Addr.mk.injEq,and_true]at D0;obtain⟨rfl,rfl⟩:=D0;have AD:=JM.o.2 z (by have:=HU.o;have:=He.o;omega);rw[IZ]at AD;have AD:=aQ AD;have hex0:-9223372036854775807<=ex:=by have:=AD.2.2.1;simp only at this;omega
           have hex1:ex<=9223372036854775807:=by have:=AD.2.2.2;simp only at this;omega
           have hnx0:-9223372036854775807<=-ex:=by have:=AD.2.2.2;simp only at this;omega
           have hnx1:-ex<=9223372036854775807:=by have:=AD.2.2.1;simp only at this;omega
           obtain⟨yB,yoffB,hbaB,AR⟩:=(H.o.ext Qy.o).b.at hlt;subst hbaB;obtain⟨bi,Ck⟩:=b8 (B[k]?.getD 0);rw[<-Ck]at AR;have JX:=ae (show dm B q2.costs nc k=Ac bi (-ex,ey)by unfold dm;rw[<-hz,IZ,Ck];rfl);have hwz:IntKind.i64.wrap ((nc:Int)+(k:Int))=(z:Int):=by rw[IntKind.wrap_i64];omega
           have L2:(z:Int)<(n10:Int):=by omega
           have L3:(0:Int)<=(z:Int):=by omega
           have GU:=ae Ck;clear IZ Ck hz AD AR;go_wp2_with fail;refine(eM ex ey _ hex0 hex1).mono ?_;rintro e w9 ⟨rfl,hx⟩;obtain⟨E2,Qh⟩:=b8 (w9.alloc (.cells #[.int .i64 (-ex),.int .i64 ey] 46));have U:=ae (show aj I E2 w9.heap.size (-ex) ey by rw[Qh];exact aj.new hx _ _);obtain⟨gb,IX⟩:=b8 w9.heap.size;rw[<-IX]at U;have Ja:=ae (Qy.o.trans U.o.ext);go_upto_region 52 with fail;rw[<-Qh,<-IX];clear Qh IX hx hwz L2 L3 yT B3;have p1:=aH (Ja.o.blk wQ.o);obtain⟨bb',Yh,MT,AR⟩:=(H.o.ext Ja.o).b.at hlt;simp only[Option.some.injEq,Addr.mk.injEq,and_true]at MT;obtain⟨rfl,rfl⟩:=MT;rw[<-GU.o]at AR;have HL2:=ae (HL.o.ext U.o.ext);have xZ:=ae (HX.o.trans U.o.ext);obtain⟨e1,Cf⟩:∃e1,Ac bi (-ex,ey)=(e1,ey):=by unfold Ac wR;split<;>exact⟨_,rfl⟩
           have CA:=ae Cf;clear Cf
           go_upto_if 234 with fail
           go_cut [6] (fun s6 wx=>s6=.pointer (some ⟨w1.heap.size,0,none⟩)/\b7 (aj I wx gb e1 ey))
           case first =>
            have g0:=U.o.c0;have g1':=U.o.c1;have gf:=U.o.free;by_cases ER:bi<0
            ·have B3:ex=e1:=by have:=CA.o;unfold Ac wR at this;rw[if_pos ER]at this;exact(Int.neg_neg ex).symm.trans (congrArg Prod.fst this)
             subst B3;rw[show decide (bi<0)=true from decide_eq_true ER];go_wp2_with fail;refine(eM (-ex) ey _ hnx0 hnx1).mono ?_;rintro e w9 ⟨rfl,hx⟩;have zV:=ae (U.o.grow hx);clear hx g0 g1' gf;have g0:=zV.o.c0;have g1':=zV.o.c1;have gf:=zV.o.free;go_wp2_with fail;go_meet;exact⟨rfl,ae (zV.o.put _ _)⟩
            ·have B3:e1=-ex:=by have:=CA.o;unfold Ac at this;rw[if_neg b9]at this;exact(congrArg Prod.fst this).symm
             subst B3;rw[show decide (bi<0)=false from decide_eq_false b9];go_wp2_with fail;go_meet;exact⟨rfl,U⟩
           obtain⟨rfl,zE⟩:=hcut;have CU:=ae (HL.o.ext zE.o.ext);have xj:=ae (HX.o.trans zE.o.ext);have g0:=zE.o.c0;have g1':=zE.o.c1;have y2:=(xS CU.o.box).2.2.1;have D':=zE.o.lt;have hlb:=lt_of_block CU.o.box;have CY:=xj.o.size;have Kj:=ae (show((List.range k).map (dm B q2.costs nc)).length=k by simp);have AU:=ae (show(List.range k).map (dm B q2.costs nc)++[(e1,ey)]=(List.range (k+1)).map (dm B q2.costs nc)by rw[<-CA.o,<-JX.o];exact cj _ _);have hgb2:=CU.o.hg;clear p1 AR
           go_wp2_with (first
            | (at_builtin;refine aG rfl _ _ rfl w8.heap.size vY _ rfl (CU.o.y.ext (Ext.alloc _ _)) _ 1 _ [(e1,ey)] rfl (r8.one' _ _ _ _ _ e7) (by rw[Kj.o];omega) (by simp;omega) ?_;intro v9 w9 ho hg l7;obtain⟨a9,n9,q9,rfl,Kr⟩:=ho.var;have Ew:=ae ho;have UG:=ae hg;have zH:=CU.o.TV (Ext.alloc _ _) hg;have Vp:=(xS zH).2.2.1;have Vn:=(xS zH).2.2.2.2.2.2.2;have Kf:Ext w8 w9:=al (Ext.trans xj.o (Ext.alloc _ _)) hg (fun j hj=>(CU.o.y.lt j hj).1);clear ho hg l7 zH))
           have JU:=ae (CU.o.Q6 (Ext.alloc _ _) UG.o Ew.o);have F':=ae (Kf.setCell (p:=⟨g,2,none⟩) hgb2 (.slice a9 n9 q9))
           go_roundg (g2-1)
           case measure=>have:=Bg.o;omega
           case rel=>exact⟨k+1,_,ae (j4 Bg.o),by go_num,ae (by rw[<-AU.o];exact JU.o),F'⟩
          ·have xQ:bn=k:=by have:=Bg.o;omega
           subst xQ;obtain⟨ay,ny,cy,rfl,HNY⟩:=HL.o.y.var;obtain⟨m0,m1,m2,m3,m4,m5,m6,mf⟩:=xS HL.o.box;obtain⟨l0,l1,l2,l3,l4,l5,l6,SK⟩:=xS (Qy.o.blk yA.o);have Ds:=lt_of_block HL.o.box;have Wu:=X7.o.size;have S6:=X8.o.size;have hswz:=Bc.o;go_wp2_with fail;refine bodyPost_ret (v:=.tuple #[A6 ⟨1,(xV q2.t).take nc,(List.range bn).map (dm B q2.costs nc),[],(-vx,vy),Z⟩ ax nc cx ay ny cy none 0 0,.bool true]) (by simp[results,Tryz.results62,go_sem,l0,l1,l2,l3,l4,l5,l6,SK]) rfl ⟨?_,(wM.o.trans Qy.o).yX (Nat.le_succ _) _ _ _ _ _ _ _⟩;rw[OI.o,It.o];refine⟨ax,nc,cx,ay,ny,cy,none,0,0,rfl,?_,?_,?_⟩
           ·exact((QG.o.ext HX.o).keep fun i hi=>bL _ (j4 ((QG.o.lt i hi).1)) _ _ _ _ _ _ _).Fz (by have:=wM.o.size;have:=RW.o.size;have:=X7.o.size;omega) (by have h1:=NV.o;rw[Hb.o]at h1;omega)
           ·exact(HL.o.y.keep fun i hi=>bL _ (j4 ((HL.o.y.lt i hi).1)) _ _ _ _ _ _ _).BD (by have:=wM.o.size;have:=X8.o.size;omega)
           ·exact fun W _=>r8.DY W
        ·subst hc
         have OI:=ae (show zf A B C=some ⟨3,(xV q2.t).take nc,[],ze q2.t nc O bn,(0,0),Z⟩by
          rw[E7.o,if_pos b9,QE.o,Int.toNat_natCast])
         have YA:=ae (gX HZ8.o.ints b9);rw[HZR.o]at YA;go_wp2_with fail;refine YA.o.mono ?_;rintro e w9 ⟨⟨v9,rfl,J7⟩,hx⟩;obtain⟨a9,n9,c9,rfl,Kr⟩:=J7.var;obtain rfl:nc=n9:=by have h1:=Kr.o;rw[List.length_replicate]at h1;exact h1
         obtain⟨G,hG,DF,CL,JG⟩:=J7.block (k:=O) MD;subst hG;have Ew:=ae J7;have Fq:=ae hx;have hjc2:(O:Int)<(nc:Int):=by omega
         clear J7 hx;go_wp2_with fail;refine(cG 1 _).mono ?_;rintro e IH ⟨rfl,hx⟩;have Co:=ae (Ew.o.ext hx);have HX10:=ae (Fq.o.trans hx);obtain⟨G',I7,Z6,Z5,AL,BO,Ka,CK⟩:=Co.o.wK.at MD;simp only[Option.some.injEq,Addr.mk.injEq,and_true]at AL;obtain⟨rfl,rfl⟩:=AL;rw[Nat.zero_add]at Ka CK;have TL:=Nat.lt_of_lt_of_le JG hx.size;have To:∀j,IH.frozen? ⟨G,j,none⟩=false:=fun j=>(hx.frozen (p:=⟨G,j,none⟩) JG).trans (CL j)
         have HRY:=ae (show l8 ((IH.setCell ⟨G,O*2,none⟩ (.int .i64 1)).setCell ⟨G,O*2+1,none⟩ (.int .i64 1)) w8.heap.size (.slice (some ⟨G,0,none⟩) nc c9) (ze q2.t nc O 0)by
          rw[wh];exact Co.o.set (k:=O) (by simp;omega) 1 1)
         have Uj:=ae ((HX10.o.setCell (p:=⟨G,O*2,none⟩) DF (.int .i64 1)).setCell (p:=⟨G,O*2+1,none⟩) DF (.int .i64 1));clear BO hx CL;go_upto_region 40 with fail;obtain⟨Hi,SZ⟩:=b8 ((IH.setCell ⟨G,O*2,none⟩ (.int .i64 1)).setCell ⟨G,O*2+1,none⟩ (.int .i64 1));rw[<-SZ]at HRY Uj;rw[<-SZ];clear SZ Ka CK To TL JG;have GN:=ae (OG.o.ext Uj.o);obtain⟨c0,c1,c2,c3,c4,R⟩:=GN.o.cells;go_wp2_with fail
         go_loopg [174] bn (fun gk ii wr=>∃i:Nat,b7 (gk+i=bn)/\ii=.int .i64 (i:Int)/\b7 (l8 wr w8.heap.size (.slice (some ⟨G,0,none⟩) nc c9) (ze q2.t nc O i))/\b7 (Ext w8 wr))
         case atStart=>exact⟨0,ae b9,rfl,HRY,Uj⟩
         case round =>
          obtain⟨g2,xK⟩:=b8 gk;subst xK;obtain⟨I,wT⟩:=b8 wr;subst wT;obtain⟨i,HI,rfl,HR,CT⟩:=hrel;clear c0 c1 c2 c3 c4 R;have Ax:=ae (OG.o.ext CT.o);obtain⟨c0,c1,c2,c3,c4,R⟩:=Ax.o.cells;rw[YH.o]at c3;have D4:=CT.o.size;by_cases Bb:i<bn
          ·obtain⟨eb,xi,B2,yT⟩:=Ax.o.tb.Be.basis.at Bb;subst B2;obtain⟨bb,zd⟩:=b8 (q2.t.basis[i]?.getD 0);rw[<-zd]at yT;have AF:=ae zd;have Du:0<=bb/\bb<nc+bn:=by
            rw[zd,List.getElem?_eq_getElem (by rw[Az.o.zP];exact Bb)];exact Az.o.Dk _ (List.getElem_mem _)
           clear zd;by_cases Ig:bb<(nc:Int)
           ·obtain⟨bN,ZU⟩:∃n:Nat,bb=n:=⟨bb.toNat,by omega⟩;subst ZU;have GH:bN<nc:=by omega
            obtain⟨KD,By,ya,yn,yc,Hr,y9,o9⟩:=Ax.o.tb.Be.rows.at Bb;subst Hr;have Dn:yn=nc+bn+1:=by rw[<-o9.hlen];exact(Az.o.row i Bb).1
            have xM:=o9.o3;have D1:=o9.l9;obtain⟨yb,xB,p,q,Da,xk,Gp,Gn⟩:=o9.at (show O<yn by omega);subst Da;have Vc:(O:Int)<(yn:Int):=by omega
            have yt:=ae (show q2.t.at i O=(p,q)from xk);have D6:-9223372036854775807<=p:=by have:=(Az.o.bounds.2 i O).1;rw[yt.o]at this;exact this
            have CG:p<=9223372036854775807:=by have:=(Az.o.bounds.2 i O).2;rw[yt.o]at this;exact this
            clear xk o9 Dn Du;go_wp2_with fail;refine(eM p q _ D6 CG).mono ?_;rintro e IG ⟨rfl,hx⟩;have FP:=ae (HR.o.ext hx);have Qz:=ae (CT.o.trans hx);obtain⟨G',I7,Z6,Z5,AL,BO,Ka,CK⟩:=FP.o.wK.at GH;simp only[Option.some.injEq,Addr.mk.injEq,and_true]at AL;obtain⟨rfl,rfl⟩:=AL;rw[Nat.zero_add]at Ka CK;obtain⟨G2,XX,Ty,To,TL⟩:=FP.o.block (k:=bN) GH;simp only[Option.some.injEq,Addr.mk.injEq,and_true]at XX;subst XX
            have Jf:=ae (show l8 ((IG.setCell ⟨G,bN*2,none⟩ (.int .i64 (-p))).setCell ⟨G,bN*2+1,none⟩ (.int .i64 q)) w8.heap.size (.slice (some ⟨G,0,none⟩) nc c9) (ze q2.t nc O (i+1))by
             rw[lV (by rw[<-AF.o];omega),<-AF.o,Int.toNat_natCast,yt.o]
             exact FP.o.set (k:=bN) (by rw[iF];exact GH) (-p) q)
            have F':=ae ((Qz.o.setCell (p:=⟨G,bN*2,none⟩) Ty (.int .i64 (-p))).setCell (p:=⟨G,bN*2+1,none⟩) Ty (.int .i64 q));clear BO hx c0 c1 c2 c3 c4 R;go_wp2_with fail
            go_roundg (g2-1)
            case measure=>have:=HI.o;omega
            case rel=>exact⟨i+1,ae (j4 HI.o),by go_num,Jf,F'⟩
           ·have Jf:=ae (show l8 I w8.heap.size (.slice (some ⟨G,0,none⟩) nc c9) (ze q2.t nc O (i+1))by rw[ol (by rw[<-AF.o];omega)];exact HR.o);clear Du;go_wp2_with fail
            go_roundg (g2-1)
            case measure=>have:=HI.o;omega
            case rel=>exact⟨i+1,ae (j4 HI.o),by go_num,Jf,CT⟩
          ·have xR:bn=i:=by have:=HI.o;omega
           subst xR;obtain⟨l0,l1,l2,l3,l4,l5,l6,SK⟩:=xS ((X8.o.trans CT.o).blk yA.o);have S6:=X8.o.size;have hswz:=Bc.o;go_wp2_with fail;refine bodyPost_ret (v:=.tuple #[A6 ⟨3,(xV q2.t).take nc,[],ze q2.t nc O bn,(0,0),Z⟩ ax nc cx none 0 0 (some ⟨G,0,none⟩) nc c9,.bool true]) (by simp[results,Tryz.results62,go_sem,l0,l1,l2,l3,l4,l5,l6,SK]) rfl ⟨?_,(wM.o.trans (X8.o.trans CT.o)).yX (Nat.le_succ _) _ _ _ _ _ _ _⟩;rw[OI.o];refine⟨ax,nc,cx,none,0,0,some ⟨G,0,none⟩,nc,c9,rfl,?_,?_,?_⟩
           ·exact((QG.o.ext CT.o).keep fun i hi=>bL _ (by have:=(QG.o.lt i hi).1;have:=X7.o.size;omega) _ _ _ _ _ _ _).Fz (by have:=wM.o.size;have:=RW.o.size;have:=X7.o.size;omega) (by have h1:=NV.o;rw[Hb.o]at h1;omega)
           ·exact fun W _=>r8.DY W
           ·exact(HR.o.keep fun i hi=>bL _ (j4 ((HR.o.lt i hi).1)) _ _ _ _ _ _ _).BD (by have:=wM.o.size;have:=X8.o.size;omega)
end
def Ox(w:World)(base:Nat)(e:Ending)(r:AT):Prop:=∃xa xn xc ya yn yc ra rn rc,e=.returned (A6 r xa xn xc ya yn yc ra rn rc)/\Bq w base xa xn xc ya yn yc ra rn rc r
theorem Ox.zero(w:World)(base:Nat)(s:Int):Ox w base (.returned (A6 (be s) none 0 0 none 0 0 none 0 0)) (be s):=⟨none,0,0,none,0,0,none,0,0,rfl,Bq.zero w base s⟩
section
variable{w:World}{a:j8}{na ca:Nat}{b:j8}{nb cb:Nat}{c:j8}{nc cc:Nat}{A:j7}{B:j9}{C:j6}
theorem oP(h:Cz w a na ca b nb cb c nc cc A B C):
 Calls Tryz.prog 22 #[C8 a na ca b nb cb c nc cc] w fun e w'=>Ox w' w.heap.size e (bV aV A B C)/\Ext w w':=by
 have wI:=(Ext.alloc w (bE a na ca b nb cb c nc cc)).trans (Ext.alloc _ Ob);obtain⟨W,hW⟩:=b8 ((w.alloc (bE a na ca b nb cb c nc cc)).alloc Ob);rw[<-hW]at wI;have wM:=ae wI;have H:=ae (h.ext wI);have yA:=ae (show W.heap[w.heap.size+1]?=some (.cells #[.int .i64 0,.slice none 0 0,.slice none 0 0,.slice none 0 0,.int .i64 0,.int .i64 0,.int .i64 0] 56 (0,0))by rw[hW];exact ak _ _ _ e7);have G:=ae (show W.heap[w.heap.size]?=some (.cells #[.slice a na ca,.slice b nb cb,.slice c nc cc] 52 (0,0))by rw[hW,bX _ _ _ e7];exact ak _ _ _ rfl);have Bc:=ae (show W.heap.size=w.heap.size+1+1 by rw[hW];simp);have HV:=ae (eF H.o);clear wI;cases xq:xF A B C
 ·rw[xq]at HV;have HR:=ae (show bV aV A B C=be 0 by unfold bV;rw[xq];rfl);clear h xq;go_enter Tryz.func22,Tryz.ntmps22
  go_upto_region 1 with fail;rw[<-hW];clear hW;have p0:=au G.o;have p1:=aH G.o;have p2:=aI G.o;go_wp2_with fail;refine HV.o.mono ?_;rintro e w1 ⟨rfl,hx⟩;have X1:=ae hx;obtain⟨l0,l1,l2,l3,l4,l5,u,Z⟩:=xS (X1.o.blk yA.o);clear hx p0 p1 p2;go_wp2_with fail;refine bodyPost_ret (v:=A6 (be 0) none 0 0 none 0 0 none 0 0) (by simp[results,Tryz.results22,go_sem,l0,l1,l2,l3,l4,l5,u,Z,be]) rfl ⟨?_,(wM.o.trans X1.o).yX (Nat.le_succ _) _ _ _ _ _ _ _⟩;rw[HR.o];exact Ox.zero _ _ _
 ·rw[xq]at HV;have z7:=ae xq;have zQ:=ae (show bV aV A B C=match zf A B C with|none=>be 4|some r=>if aD aV A B C r=true then r else be 4 by unfold bV;rw[if_pos xq];cases zf A B C<;>rfl);have En:=ae (fun(W':World) (hx:Ext W W')=>PB (H.o.ext hx) z7.o);obtain⟨o,ho⟩:=b8 (zf A B C);rw[<-ho]at zQ;simp only[<-ho]at En;clear h xq ho;go_enter Tryz.func22,Tryz.ntmps22
  go_upto_region 1 with fail;rw[<-hW];clear hW;have p0:=au G.o;have p1:=aH G.o;have p2:=aI G.o;go_wp2_with fail;refine HV.o.mono ?_;rintro e w1 ⟨rfl,hx⟩;have X1:=ae hx;clear hx p0 p1 p2;have p0:=au (X1.o.blk G.o);have p1:=aH (X1.o.blk G.o);have p2:=aI (X1.o.blk G.o);go_wp2_with fail;refine(En.o _ X1.o).mono ?_;rintro e w2 ⟨hs,hx⟩;have X2:=ae (X1.o.trans hx);clear hx p0 p1 p2;cases o with
  | none =>
    obtain⟨r,U,O,R,K,I,J,ra,rn,rc,rfl⟩:=hs;have X3:=ae (X2.o.trans (Ext.alloc w2 (ce r U O R K I J ra rn rc)));obtain⟨rs,rX,rY,rr,⟨yZ,yY⟩,rp⟩:=r;obtain⟨l0,l1,l2,l3,l4,l5,u,Z⟩:=xS (X3.o.blk yA.o);go_wp2_with fail;refine bodyPost_ret (v:=A6 (be 4) none 0 0 none 0 0 none 0 0) (by simp[results,Tryz.results22,go_sem,l0,l1,l2,l3,l4,l5,u,Z,be]) rfl ⟨?_,(wM.o.trans X3.o).yX (Nat.le_succ _) _ _ _ _ _ _ _⟩;rw[zQ.o];exact Ox.zero _ _ _
  | some r =>
    obtain⟨U,O,R,K,I,J,ra,rn,rc,rfl,Cv⟩:=hs;have X3:=ae (X2.o.trans (Ext.alloc w2 (ce r U O R K I J ra rn rc)));have JT:=ae (Cv.ext (Ext.alloc w2 (ce r U O R K I J ra rn rc)));have zy:=ae (Cv.here.ext (Ext.alloc w2 (ce r U O R K I J ra rn rc)));have N6:=ae (fun(W':World) (hx:Ext (w2.alloc (ce r U O R K I J ra rn rc)) W')=>vi (H.o.ext (X3.o.trans hx)) (zy.o.ext hx) z7.o);obtain⟨ck,Kb⟩:=b8 (aD aV A B C r);have NL:=ae (show bV aV A B C=if ck=true then r else be 4 by rw[zQ.o,Kb]);simp only[<-Kb]at N6;have Cs:=ae (show(w2.alloc (ce r U O R K I J ra rn rc)).heap[w2.heap.size]?=some (ce r U O R K I J ra rn rc)from ak _ _ _ rfl);obtain⟨WR,XV⟩:=b8 (w2.alloc (ce r U O R K I J ra rn rc));obtain⟨gr,zF⟩:=b8 w2.heap.size;rw[<-XV,<-zF]at Cs;rw[<-XV]at X3 zy JT;simp only[<-XV]at N6;obtain⟨rs,rX,rY,rr,⟨yZ,yY⟩,rp⟩:=r;clear Cv Kb;go_upto_region 4 with fail;rw[<-XV,<-zF];clear XV zF;have p0:=au (X3.o.blk G.o);have p1:=aH (X3.o.blk G.o);have p2:=aI (X3.o.blk G.o);obtain⟨q0,q1,q2,q3,q4,q5,q6,qf⟩:=xS Cs.o;go_wp2_with fail;refine(N6.o _ (Ext.refl _)).mono ?_;rintro e w4 ⟨rfl,hx⟩;have X4:=ae (X3.o.trans hx);have HLW4:=ae (JT.o.ext hx);obtain⟨l0,l1,l2,l3,l4,l5,u,Z⟩:=xS (X4.o.blk yA.o)
    have HBR4:=ae (hx.blk Cs.o);clear hx p0 p1 p2 q0 q1 q2 q3 q4 q5 q6 qf;cases ck
    ·go_wp2_with fail;refine bodyPost_ret (v:=A6 (be 4) none 0 0 none 0 0 none 0 0) (by simp[results,Tryz.results22,go_sem,l0,l1,l2,l3,l4,l5,u,Z,be]) rfl ⟨?_,(wM.o.trans X4.o).yX (Nat.le_succ _) _ _ _ _ _ _ _⟩;rw[NL.o];exact Ox.zero _ _ _
    ·obtain⟨q0,q1,q2,q3,q4,q5,q6,qf⟩:=xS HBR4.o;have Cu:=X1.o.size;have DT:=Bc.o;go_wp2_with fail;refine bodyPost_ret (v:=A6 ⟨rs,rX,rY,rr,(yZ,yY),rp⟩ U O R K I J ra rn rc) (by simp[results,Tryz.results22,go_sem,l0,l1,l2,l3,l4,l5,u,Z]) rfl ⟨?_,(wM.o.trans X4.o).yX (Nat.le_succ _) _ _ _ _ _ _ _⟩;rw[NL.o];exact⟨U,O,R,K,I,J,ra,rn,rc,rfl,(HLW4.o.keep e7 fun k hk _=>bL _ b9 _ _ _ _ _ _ _).mono b9⟩
end
end Go.Proofs.YtalmoolkhcgmmaaGreat
