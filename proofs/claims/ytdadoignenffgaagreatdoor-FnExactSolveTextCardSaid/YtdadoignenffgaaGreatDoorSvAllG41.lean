import Derived.Test.YtdadoignenffgaaGreatDoorSvAllG22
import Derived.Outline
import Derived.Deep.CutBlock
set_option linter.unusedVariables false
set_option linter.unusedSimpArgs false
namespace Go.Proofs.YtdadoignenffgaaGreatDoor
set_option maxHeartbeats 16000000
set_option maxRecDepth 100000
open Go.RowKit
theorem vH{w:World}{g:Nat}{a b c d e f h:Value}{t:TypeId}(hb:w.heap[g]?=some (.cells #[a,b,c,d,e,f,h] t (0,0))):
 w.cell? ⟨g,0,none⟩=some a/\w.cell? ⟨g,1,none⟩=some b/\w.cell? ⟨g,2,none⟩=some c/\w.cell? ⟨g,3,none⟩=some d/\w.cell? ⟨g,4,none⟩=some e/\w.cell? ⟨g,5,none⟩=some f/\w.cell? ⟨g,6,none⟩=some h/\∀k,w.frozen? ⟨g,k,none⟩=false:=by
 refine⟨?_,?_,?_,?_,?_,?_,?_,fun k=>frozen_of_row w g k _ _ hb⟩<;>rw[cell_of_row w g _ _ _ _ hb]<;>rfl
theorem Ext.wY{w w':World}(h:Ext w w'){b:Nat}(hb:w.heap.size<=b)(x0 x1 x2 I x4 G E:Value):
 Ext w (((((((w'.setCell ⟨b,0,none⟩ x0).setCell ⟨b,1,none⟩ x1).setCell ⟨b,2,none⟩ x2).setCell ⟨b,3,none⟩ I).setCell ⟨b,4,none⟩ x4).setCell ⟨b,5,none⟩ G).setCell ⟨b,6,none⟩ E) :=
 ((((((h.setCell (p:=⟨b,0,none⟩) hb _).setCell (p:=⟨b,1,none⟩) hb _).setCell (p:=⟨b,2,none⟩) hb _).setCell (p:=⟨b,3,none⟩) hb _).setCell (p:=⟨b,4,none⟩) hb _).setCell (p:=⟨b,5,none⟩) hb _).setCell (p:=⟨b,6,none⟩) hb _
theorem bC(w':World){b k:Nat}(h:k≠b)(x0 x1 x2 I x4 G E:Value):
 (((((((w'.setCell ⟨b,0,none⟩ x0).setCell ⟨b,1,none⟩ x1).setCell ⟨b,2,none⟩ x2).setCell ⟨b,3,none⟩ I).setCell ⟨b,4,none⟩ x4).setCell ⟨b,5,none⟩ G).setCell ⟨b,6,none⟩ E).heap[k]?=w'.heap[k]?:=by
 rw[heap_setCell_other _ _ _ _ h,heap_setCell_other _ _ _ _ h,heap_setCell_other _ _ _ _ h,heap_setCell_other _ _ _ _ h,heap_setCell_other _ _ _ _ h,heap_setCell_other _ _ _ _ h,heap_setCell_other _ _ _ _ h]
structure Ix(w:World)(base g:Nat)(s:Int)(vx vy vr:Value)(p q piv:Int)(Y:j4):Prop where
 box:w.heap[g]?=some (.cells #[.int .i64 s,vx,vy,vr,.int .i64 p,.int .i64 q,.int .i64 piv] 72 (0,0))
 hg:base<=g
 y:l9 w base vy Y
section
variable{w:World}{base g:Nat}{s:Int}{vx vy vr:Value}{p q piv:Int}{Y:j4}
theorem Ix.ext{w':World}(h:Ix w base g s vx vy vr p q piv Y)(hx:Ext w w'):Ix w' base g s vx vy vr p q piv Y:=⟨(hx.block _ (lt_of_block h.box)).trans h.box,h.hg,h.y.ext hx⟩
theorem Ix.QI{G E:World}(h:Ix w base g s vx vy vr p q piv Y)(hx:Ext w G)(hg:G.grownBy E vy.ownBlock):E.heap[g]?=some (.cells #[.int .i64 s,vx,vy,vr,.int .i64 p,.int .i64 q,.int .i64 piv] 72 (0,0)) :=
 (hg.block g (lt_of_block (h.ext hx).box) (an (h.ext hx).y (h.ext hx).box (by decide))).trans (h.ext hx).box
theorem Ix.Og{I E:World}(h:Ix w base g s vx vy vr p q piv Y)(hx:Ext w I){G:Value}{J:j4}(K:I.grownBy E vy.ownBlock)(O:l9 E base G J):
 Ix (E.setCell ⟨g,2,none⟩ G) base g s vx G vr p q piv J:=by
 have xe:=h.QI hx K;refine⟨?_,h.hg,dN O xe (by decide)⟩;have:=heap_setCell_same E g 2 _ _ G xe;exact this
end
theorem KI(B:j7)(cs:j4){n i z:Nat}{e d:j8}{E:Bool}{bi:Int}(hz:z=n+i)(he:cs[z]?.getD (0,0)=e)(hd:vD (1,1) e=(d,E))(hb:B[i]?.getD 0=bi):eN B (1,1) cs n i=if E=true then some (yz bi d) else none:=by
 unfold eN;rw[<-hz,he,hd,hb]
def Zf(w:World)(base:Nat)(e:Ending)(o:Option yu):Prop:=match o with
 | some r=>∃xa xn xc ya yn yc ra rn rc,e=.returned (.tuple #[zg r xa xn xc ya yn yc ra rn rc,.bool true])/\zN w base xa xn xc ya yn yc ra rn rc r
 | none=>∃r xa xn xc ya yn yc ra rn rc,e=.returned (.tuple #[zg r xa xn xc ya yn yc ra rn rc,.bool false])
section
variable{w:World}{a:j6}{na ca:Nat}{b:j6}{nb cb:Nat}{c:j6}{nc cc:Nat}{A:j5}{B:j7}{C:j4}
theorem MI(h:Bf w a na ca b nb cb c nc cc A B C)(ok:vG A B C=true):
 Calls Tryz.prog 129 #[Al a na ca b nb cb c nc cc] w fun e w'=>Zf w' w.heap.size e (xF A B C)/\Ext w w':=by
 have TI:=ae (fR ok);obtain⟨r1,r2,r3,r4,r5,r6⟩:=co h ok;subst r3;have uS:=(Ext.alloc w (aV a nb ca b nb cb c nc cc)).trans (Ext.alloc _ (.cells #[.int .i64 0,.slice none 0 0,.slice none 0 0,.slice none 0 0,.int .i64 0,.int .i64 0,.int .i64 0] 72));obtain⟨W,hW⟩:=b9 ((w.alloc (aV a nb ca b nb cb c nc cc)).alloc (.cells #[.int .i64 0,.slice none 0 0,.slice none 0 0,.slice none 0 0,.int .i64 0,.int .i64 0,.int .i64 0] 72));rw[<-hW]at uS;have uV:=ae uS;have H:=ae (h.ext uS);have xN:=ae ok;have wL:=ae (show W.heap[w.heap.size+1]?=some (.cells #[.int .i64 0,.slice none 0 0,.slice none 0 0,.slice none 0 0,.int .i64 0,.int .i64 0,.int .i64 0] 72 (0,0))by rw[hW];exact aj _ _ _ e8);have uW:=ae (show W.heap[w.heap.size]?=some (.cells #[.slice a nb ca,.slice b nb cb,.slice c nc cc] 68 (0,0))by rw[hW,bU _ _ _ e8];exact aj _ _ _ rfl);have zx:=ae (show W.heap.size=w.heap.size+1+1 by rw[hW];simp);have Iu:=h.a.l8;have It:=h.a.o0;have xL:=h.b.l8;have wU:=h.b.o0;have xB:=h.c.l8;have zC:=h.c.o0;have zk:=ae h.a.hlen;have xi:=ae h.b.hlen;have yw:=ae h.c.hlen;clear h uS ok r4 r5 r6;have xh:=ae (fun(w':World) (hx:Ext W w')=>mB (H.o.ext hx) xN.o);go_enter Tryz.func129,Tryz.ntmps129
 go_upto_region 1 with fail;rw[<-hW];clear hW;have p1:=au uW.o;have p2:=av uW.o;have k7:Ext W W.drew:=Ext.drew W;have k7:Ext W W.drew:=Ext.drew W;have vt:=k7;have k8:=ae (fun(w':World) (h:Ext W w')=>(⟨h.j9 p1,h.j9 p2,h⟩:w'.cell? ⟨w.heap.size,1,none⟩=some (.slice b nb cb)/\w'.cell? ⟨w.heap.size,2,none⟩=some (.slice c nc cc)/\Ext W w'))
 go_region_held3 (fun w'=>w'.cell? ⟨w.heap.size,1,none⟩=some (.slice b nb cb)/\w'.cell? ⟨w.heap.size,2,none⟩=some (.slice c nc cc)/\Ext W w')
  (with_reducible exact k8.o _ k7)
  (first
    | fail)
 clear k8 vt;have X1:=ae k7;clear k7 p1 p2;have p0:=al (X1.o.blk uW.o);have p1:=au (X1.o.blk uW.o);have p2:=av (X1.o.blk uW.o);go_wp2_with fail;refine(xh.o _ X1.o).mono ?_;rintro e w1 ⟨⟨va,vb,vs,rfl,ho⟩,hx⟩;obtain⟨a7,n7,c7,rfl,DP⟩:=ho.a.var;obtain⟨a8,n8,c8,rfl,Eg⟩:=ho.b.var;obtain⟨E,hE⟩:=b9 (w1.alloc (.cells #[.slice a7 n7 c7,.slice a8 n8 c8,.int .i64 (nc:Int),.int .i64 0,.bool false] 182));have yD:Ext w1 E:=by rw[hE];exact Ext.alloc _ _
 have OZ:=ae (X1.o.trans hx);have XE:=ae yD
 have HS:=ae (show dj E w1.heap.size a7 n7 c7 a8 n8 c8 vs (bD A B nc) 0 false from
  ⟨by rw[hE];exact aj _ _ _ rfl,(ho.ext yD).mono (Nat.zero_le _)⟩)
 have M5:=gH nc e7
 have HZ:=ae (show o5 (E.alloc (.cells (bh (List.replicate nc 0)) 3)) 0 (.slice (some ⟨E.heap.size,0,none⟩) nc nc) (List.replicate nc 0)from
  (show Row (E.alloc (.cells (bh (List.replicate nc 0)) 3)) E.heap.size 3 (List.replicate nc 0)from heap_alloc_new _ _).own (Nat.zero_le _) e8 e7)
 obtain⟨F,hF⟩:=b9 (E.alloc (.cells (bh (List.replicate nc 0)) 3));have XF:=ae (show Ext E F by rw[hF];exact Ext.alloc _ _);rw[<-hF]at HZ;clear ho hx yD p0 p1 p2;go_upto_region 3 with fail;rw[<-hE];clear hE;go_upto_region 4 with fail;rw[<-hF];clear hF M5
 have HZR:=ae (show dQ (List.replicate nc 0)=List.replicate nc ((0:Int),(1:Int))by
  rw[fe (by intro x hx;rw[List.mem_replicate]at hx;omega)];simp[ar])
 have Ux:=ae (gV HZ.o.ints e7);rw[HZR.o]at Ux;go_wp2_with fail;refine Ux.o.mono ?_;rintro e w3 ⟨⟨v3,rfl,xt⟩,hx⟩;obtain⟨a3,n3,c3,rfl,FF⟩:=xt.var;have Fx:n3<=70:=by have:=FF.o;rw[List.length_replicate]at this;omega
 have X3:=ae (XF.o.trans hx);have HZ3:=ae (HZ.o.ext hx);have AV:=ae (nl xt.uZ 1 nb e7 e7);clear xt hx FF;go_wp2_with fail;refine AV.o.mono ?_;rintro e w4 ⟨⟨v4,rfl,z8⟩,hx⟩;obtain⟨a4,n4,c4,rfl,UO⟩:=z8.var;have X4:=ae (X3.o.trans hx);have HZ4:=ae (HZ3.o.ext hx);have LW:=ae (HS.o.ext X4.o);have CN:=ae (Ol LW.o (show wo nc nb _ (bD A B nc)by have h1:=TI.o;rw[yw.o,zk.o]at h1;exact h1) e7 e7 e7 z8);have Lv:=ae (show List.replicate nc ((0:Int),(1:Int))++List.replicate nb (1,1)=dI C.length B.length by unfold dI;rw[yw.o,xi.o]);clear z8 hx UO;go_wp2_with fail;refine CN.o.mono ?_;rintro e w5 ⟨BI,Of,Ps,Oe,OX,QJ,OW,Mf,J5⟩;obtain⟨o1,M3⟩:=b9 (aO (dI C.length B.length) 1000 (bD A B C.length));have J4:aO (List.replicate nc ((0:Int),(1:Int))++List.replicate nb (1,1)) (1000-0) (bD A B nc)=o1:=by rw[M3,Lv.o,yw.o]
 rw[J4]at J5;have vw:=ae M3;have HZ5:=ae (HZ4.o.mod BI LW.o.box);have X5:=ae (show Ext w1 w5 from BI.ext (XE.o.trans X4.o) (Nat.le_refl _));clear J4 M3;cases o1 with
 | none =>
   obtain⟨v5,Y4,t5,n5,rfl,Bm⟩:=J5;have CL:=ae Bm;clear Bm BI;obtain⟨c0,c1,c2,c3',VP,O⟩:=CL.o.cells;have B2:=ae (show xF A B C=none by unfold xF;rw[<-vw.o];rfl);have QM:=ae ((OZ.o).trans X5.o);obtain⟨l0,l1,l2,l3,l4,l5,l6,lf⟩:=vH (QM.o.blk wL.o);go_wp2_with fail;refine bodyPost_ret (v:=.tuple #[zg (aM 0) none 0 0 none 0 0 none 0 0,.bool false]) (by simp[results,Tryz.results129,go_sem,l0,l1,l2,l3,l4,l5,l6,lf,aM]) rfl ⟨?_,(uV.o.trans QM.o).wY (Nat.le_succ _) _ _ _ _ _ _ _⟩;rw[B2.o];exact⟨aM 0,none,0,0,none,0,0,none,0,0,rfl⟩
 | some q1 =>
   obtain⟨v5,rfl,BH,Bm⟩:=J5;obtain⟨a5,n5,c5,rfl,zj⟩:=BH.var;have CL:=ae Bm;have vU:=ae BH;have hinv:=du TI.o vw.o.symm;have O2:=ae (show wo nc nb _ q1.t by have h1:=hinv.1;rw[yw.o,zk.o]at h1;exact h1);have VZ:=ae (dW O2.o hinv.2.1).1;have hql:=hinv.2.2;clear Bm BH BI hinv;obtain⟨u,hu⟩:=b9 (nc+nb);have HU:=ae hu;obtain rfl:n5=u+1:=by have h1:=zj.o;rw[VZ.o.1]at h1;omega
   have hu78:u<=78:=by omega
   have DK:((u+1:Nat):Int)-1=(u:Int):=by omega
   obtain⟨zb,vF,lx,ly,zX,F3,xr,Cm⟩:=vU.o.uZ.at (show u<u+1 by omega);subst zX;have S7:=vU.o.uZ.l8;have S6:=vU.o.uZ.o0;have EF:=ae (show q1.costs[C.length+B.length]?.getD (0,0)=(lx,ly)by rw[yw.o,xi.o,<-HU.o];exact F3);obtain⟨c0,c1,c2,c3',VP,O⟩:=CL.o.cells;have QM:=ae ((OZ.o).trans X5.o);clear F3 hu;by_cases Aa:lx<0
   ·have CO:=ae (show xF A B C=(runT (eN B (1,1) q1.costs C.length) B.length).map fun Y=>⟨2,[],Y,[],(0,0),1000-q1.left⟩by
     unfold xF;rw[<-vw.o];simp only[Option.bind_some];rw[EF.o,if_pos Aa])
    obtain⟨U,AP⟩:∃p:Int,p=((1000-q1.left:Nat):Int):=⟨_,rfl⟩;rw[<-AP]at c3';have NR:=ae (show(1000:Int)-(q1.left:Int)=U by rw[AP];omega);clear AP;obtain⟨E9,VK⟩:=b9 (w5.alloc (.cells #[.int .i64 2,.slice none 0 0,.slice none 0 0,.slice none 0 0,.int .i64 0,.int .i64 0,.int .i64 U] 72));have X9:=ae (show Ext w5 E9 by rw[VK];exact Ext.alloc _ _)
    have FG:=ae (show Ix E9 w5.heap.size w5.heap.size 2 (.slice none 0 0) (.slice none 0 0) (.slice none 0 0) 0 0 U []by
     rw[VK];exact⟨aj _ _ _ rfl,Nat.le_refl _,l9.nil _ _⟩)
    go_upto_region 9 with fail;rw[<-VK];clear VK c0 c1 c2 c3' VP O xr Cm;go_wp2_with fail
    go_loopg [64] nb (fun gk ii wr=>∃(k:Nat) (vy:Value) (Y:j4),b7 (gk+k=nb)/\ii=.int .i64 (k:Int)/\b7 (runT (eN B (1,1) q1.costs C.length) k=some Y)/\b7 (Ix wr w5.heap.size w5.heap.size 2 (.slice none 0 0) vy (.slice none 0 0) 0 0 U Y)/\b7 (Ext w5 wr))
    case atStart=>exact⟨0,_,[],ae e7,rfl,ae rfl,FG,X9⟩
    case round =>
     obtain⟨g1,o6⟩:=b9 gk;subst o6;obtain⟨o8,o4⟩:=b9 wr;subst o4;obtain⟨k,vy,Y,HK,rfl,HY,HL,HX⟩:=hrel;have MV:=HX.o.size;have Iw:=ae (QM.o.trans HX.o);by_cases hlt:k<nb
     ·obtain⟨z,hz⟩:=b9 (nc+k);have Su:z<u+1:=by have:=HU.o;omega
      obtain⟨Wh,IF,ex,Z,Cl,Ir,xj,AY⟩:=(vU.o.ext HX.o).uZ.at Su;simp only[Option.some.injEq,Addr.mk.injEq,and_true]at Cl;obtain⟨rfl,rfl⟩:=Cl;obtain⟨d1,d2,BY,hdd⟩:∃x y ok,vD (1,1) (ex,Z)=((x,y),ok):=⟨_,_,_,rfl⟩;have Bk:=ae hdd;obtain⟨bb,yR,YJ,At⟩:=(H.o.ext Iw.o).b.at hlt;subst YJ;obtain⟨bi,Bx⟩:=b9 (B[k]?.getD 0);rw[<-Bx]at At;have Lw:=ae Bx;have Ic:=ae (show eN B (1,1) q1.costs C.length k=if BY=true then some (yz bi (d1,d2)) else none from KI B q1.costs (by rw[yw.o];exact hz) Ir hdd Bx.symm);have p1:=au (Iw.o.blk uW.o);have MM:IntKind.i64.wrap ((nc:Int)+(k:Int))=(z:Int):=by rw[IntKind.wrap_i64];omega
      have JI:(0:Int)<=(z:Int):=by omega
      have JH:(z:Int)<((u+1:Nat):Int):=by omega
      have Wx:(z:Int)<(u:Int)+1:=by omega
      clear Ir hdd Bx hz;go_upto_region 12 with fail;go_upto_region 12 with fail
      go_cut [12,13] (fun sx so wx=>∃g:Nat,sx=.pointer (some ⟨g,0,none⟩)/\so=.bool BY/\b7 (ag o8 wx g d1 d2))
      case first =>
       have k7:Ext o8 o8.drew:=Ext.drew o8;have vt:Ext o8 (o8.alloc (.cells #[.int .i64 0,.int .i64 0] 62)).drew:=(Ext.alloc _ _).trans (Ext.drew _);have k8:=ae (fun(w':World) (h:Ext o8 w')=>(⟨h.j9 xj,h.j9 AY,h⟩:w'.cell? ⟨zb,vF+z*2,none⟩=some (.int .i64 ex)/\w'.cell? ⟨zb,vF+z*2+1,none⟩=some (.int .i64 Z)/\Ext o8 w'))
       go_region_held3 (fun w'=>w'.cell? ⟨zb,vF+z*2,none⟩=some (.int .i64 ex)/\w'.cell? ⟨zb,vF+z*2+1,none⟩=some (.int .i64 Z)/\Ext o8 w')
        (first
          | with_reducible exact k8.o _ k7
          | with_reducible exact k8.o _ vt
          | with_reducible exact k8.o _ ((k7.setCell (by first|(simp;done)|(simp;omega)) _).setCell (by first|(simp;done)|(simp;omega)) _)
          | with_reducible exact k8.o _ (k7.trans (Ext.alloc _ _))
          | with_reducible exact k8.o _ (p4.put _ _).ext)
        (first
          | (go_at_call 71
             (with_reducible refine(cv 1 _).mono ?_)
             rintro e w7 ⟨rfl,vN⟩
             first|(with_reducible have p4:=ag.grow p4 vN)|(with_reducible have p4:=ag.vm vN)|(with_reducible have p4:=ag.vq k7 vN)|skip
             first|(have Ag:=p4.c0;have Af:=p4.c1;have Bb:=p4.free)|skip
             have k7:Ext o8 w7:=by first|with_reducible exact k7.trans vN|with_reducible exact vt.trans vN|with_reducible exact(k7.trans (Ext.alloc _ _)).trans vN
             have xu:=k7.size)
          | (go_at_call 138
             (with_reducible refine(kF 1 1 ex Z _).mono ?_)
             rw[Bk.o];rintro e w8 ⟨rfl,wC⟩
             first|(with_reducible have p4:=ag.grow p4 wC)|(with_reducible have p4:=ag.vm wC)|(with_reducible have p4:=ag.vq k7 wC)|skip
             first|(have Ag:=p4.c0;have Af:=p4.c1;have Bb:=p4.free)|skip
             have k7:Ext o8 w8:=by first|with_reducible exact k7.trans wC|with_reducible exact vt.trans wC|with_reducible exact(k7.trans (Ext.alloc _ _)).trans wC
             have xu:=k7.size)
          | fail)
       all_goals(go_wp2_with fail;go_meet;first|exact⟨_,rfl,rfl,ae (p4.put _ _)⟩|exact⟨_,rfl,rfl,ae (ag.new k7 _ _)⟩|exact⟨_,rfl,rfl,ae (ag.new' k7 _ _ e8)⟩)
      obtain⟨g,rfl,rfl,Q⟩:=hcut;have GL:=ae (Iw.o.trans Q.o.ext);clear MM JI JH Wx xj AY p1 At;cases BY
      ·have B2:=ae (show runT (eN B (1,1) q1.costs C.length) B.length=none from fQ HY.o (by rw[Ic.o];rfl) (by rw[xi.o];exact hlt));obtain⟨l0,l1,l2,l3,l4,l5,l6,lf⟩:=vH (GL.o.blk wL.o);go_wp2_with fail;refine bodyPost_ret (v:=.tuple #[zg (aM 0) none 0 0 none 0 0 none 0 0,.bool false]) (by simp[results,Tryz.results129,go_sem,l0,l1,l2,l3,l4,l5,l6,lf,aM]) rfl ⟨?_,(uV.o.trans GL.o).wY (Nat.le_succ _) _ _ _ _ _ _ _⟩;rw[CO.o,B2.o];exact⟨aM 0,none,0,0,none,0,0,none,0,0,rfl⟩
      ·have p1:=au (GL.o.blk uW.o);obtain⟨bb',T9,Kr,At⟩:=(H.o.ext GL.o).b.at hlt;simp only[Option.some.injEq,Addr.mk.injEq,and_true]at Kr;obtain⟨rfl,rfl⟩:=Kr;rw[<-Lw.o]at At;have HL2:=ae (HL.o.ext Q.o.ext);have wF:=ae (HX.o.trans Q.o.ext);have Uh:=ae (ec (x:=yz bi (d1,d2)) HY.o (by rw[Ic.o];rfl));obtain⟨e1,AB⟩:∃e1,yz bi (d1,d2)=(e1,d2):=by unfold yz uU;split<;>exact⟨_,rfl⟩
       have A1:=ae AB;have Qe:=aL (p:=(d1,d2)) (by have h1:=(jU (a:=(1,1)) (b:=(ex,Z)) (by rw[Bk.o])).2.2.1;rw[Bk.o]at h1;exact h1);have Ca:-9223372036854775807<=d1:=by have:=Qe.2.2.1;simp only at this;omega
       have D1:d1<=9223372036854775807:=by have:=Qe.2.2.2;simp only at this;omega
       clear AB Qe
       go_upto_if 86 with fail
       go_cut [6] (fun s6 wx=>s6=.pointer (some ⟨w1.heap.size,0,none⟩)/\b7 (ag o8 wx g e1 d2))
       case first =>
        have g0:=Q.o.c0;have g1':=Q.o.c1;have gf:=Q.o.free;by_cases Dn:bi<0
        ·have AY:e1=-d1:=by have:=A1.o;unfold yz uU at this;rw[if_pos Dn]at this;exact(congrArg Prod.fst this).symm
         subst AY;rw[show decide (bi<0)=true from decide_eq_true Dn];go_wp2_with fail;refine(dS d1 d2 _ Ca D1).mono ?_;rintro e w9 ⟨rfl,hx⟩;have yN:=ae (Q.o.grow hx);clear hx g0 g1' gf;have g0:=yN.o.c0;have g1':=yN.o.c1;have gf:=yN.o.free;go_wp2_with fail;go_meet;exact⟨rfl,ae (yN.o.put _ _)⟩
        ·have AY:e1=d1:=by have:=A1.o;unfold yz at this;rw[if_neg e7]at this;exact(congrArg Prod.fst this).symm
         subst AY;rw[show decide (bi<0)=false from decide_eq_false e7];go_wp2_with fail;go_meet;exact⟨rfl,Q⟩
       obtain⟨rfl,yF⟩:=hcut;have Bj:=ae (HL.o.ext yF.o.ext);have vk:=ae (HX.o.trans yF.o.ext);have g0:=yF.o.c0;have g1':=yF.o.c1;have y2:=(vH Bj.o.box).2.2.1;have Ev:=yF.o.lt;have hlb:=lt_of_block Bj.o.box;have Cs:=vk.o.size;have Du:=ae (dp HY.o);clear p1 At
       go_wp2_with (first
        | (at_builtin;refine aI rfl _ _ rfl w5.heap.size vy _ rfl (Bj.o.y.ext (Ext.alloc _ _)) _ 1 _ [(e1,d2)] rfl (Rats.one' _ _ _ _ _ e8) (by rw[Du.o];omega) (by simp;omega) ?_;intro v9 w9 ho hg l7;obtain⟨a9,n9,q9,rfl,LZ⟩:=ho.var;have Dz:=ae ho;have Rm:=ae hg;have yi:=Bj.o.QI (Ext.alloc _ _) hg;have VQ:=(vH yi).2.2.1;have VN:=(vH yi).2.2.2.2.2.2.2;have Qr:Ext w5 w9:=ak (Ext.trans vk.o (Ext.alloc _ _)) hg (fun j hj=>(Bj.o.y.lt j hj).1);clear ho hg l7 yi))
       have Sb:=ae (Bj.o.Og (Ext.alloc _ _) Rm.o Dz.o);have D7:=ae (Qr.setCell (p:=⟨w5.heap.size,2,none⟩) (Nat.le_refl _) (.slice a9 n9 q9))
       go_roundg (g1-1)
       case measure=>have:=HK.o;omega
       case rel=>exact⟨k+1,_,_,ae (j1 HK.o),by go_num,Uh,ae (by rw[A1.o];exact Sb.o),D7⟩
     ·have vZ:nb=k:=by have:=HK.o;omega
      subst vZ;obtain⟨ay,ny,cy,rfl,HNY⟩:=HL.o.y.var;obtain⟨m0,m1,m2,m3,m4,m5,m6,mf⟩:=vH HL.o.box;obtain⟨l0,l1,l2,l3,l4,l5,l6,lf⟩:=vH (Iw.o.blk wL.o);have Dx:=ae (show xF A B C=some ⟨2,[],Y,[],(0,0),U⟩by rw[CO.o,xi.o,HY.o,Option.map_some,NR.o]);have Ct:=lt_of_block HL.o.box;go_wp2_with fail;refine bodyPost_ret (v:=.tuple #[zg ⟨2,[],Y,[],(0,0),U⟩ none 0 0 ay ny cy none 0 0,.bool true]) (by simp[results,Tryz.results129,go_sem,l0,l1,l2,l3,l4,l5,l6,lf]) rfl ⟨?_,(uV.o.trans Iw.o).wY (Nat.le_succ _) _ _ _ _ _ _ _⟩;rw[Dx.o];refine⟨none,0,0,ay,ny,cy,none,0,0,rfl,?_,?_,?_⟩
      ·exact fun W _=>Rats.Ci W
      ·exact(HL.o.y.keep fun i hi=>bC _ (by have:=(HL.o.y.lt i hi).1;have:=QM.o.size;have:=zx.o;omega) _ _ _ _ _ _ _).zV (by have:=uV.o.size;have:=OZ.o.size;have:=X5.o.size;omega)
      ·exact fun W _=>Rats.Ci W
   ·have CO:=ae (show xF A B C=(aY C.length (q1.t,q1.left) B.length).bind fun s=>(aO (bY C B.length) s.2 s.1).map fun p2 =>
     if 0<=p2.ve then⟨3,(xx p2.t).take C.length,[],xp p2.t C.length p2.ve.toNat B.length,(0,0),1000-p2.left⟩
     else⟨1,(xx p2.t).take C.length,(List.range B.length).map (dE B p2.costs C.length),[],uU (p2.costs[C.length+B.length]?.getD (0,0)),1000-p2.left⟩by
     unfold xF;rw[<-vw.o];simp only[Option.bind_some];rw[EF.o,if_neg e7])
    have FA:=ae (show dj w5 w1.heap.size _ _ _ _ _ _ Mf q1.t (1000-q1.left) false from CL.o);have HD0:=ae (show aY nc (q1.t,q1.left) 0=some (q1.t,q1.left)from rfl);have P3:=lt_of_block FA.o.box;have UD:=ae hql;go_upto_region 20 with fail;clear c0 c1 c2 c3' VP O xr Cm S7 S6 hql;go_wp2_with fail
    go_loopg [98] nb (fun gk ii wr=>∃(k:Nat) (tt:Tb) (lf:Nat) (ra:j6) (rn rc:Nat) (ba:j6) (bn bc:Nat) (vs:List Value),b7 (gk+k=nb)/\ii=.int .i64 (k:Int)/\b7 (aY nc (q1.t,q1.left) k=some (tt,lf))/\b7 (dj wr w1.heap.size ra rn rc ba bn bc vs tt (1000-lf) false)/\b7 (Mod w1.heap.size w5 wr))
    case atStart=>exact⟨0,_,_,_,_,_,_,_,_,_,ae e7,rfl,HD0,FA,ae (Mod.refl _ _)⟩
    case round =>
     obtain⟨g1,o6⟩:=b9 gk;subst o6;obtain⟨o8,o4⟩:=b9 wr;subst o4;obtain⟨k,tt,lf,ra,rn,rc,ba,bn,bc,vs,HK,rfl,HD,CK,HM⟩:=hrel;have OJ:=eM (s:=(q1.t,q1.left)) O2.o HD.o;have HT:=ae (show wo nc nb _ tt from OJ.1);have Tk:lf<=1000:=by have h1:=OJ.2;have h2:=UD.o;simp only at h1;omega
     have XM:=lt_of_block CK.o.box;have BQ:=HM.o.size;obtain⟨c0,c1,c2,c3,c4,O⟩:=CK.o.cells;have zu:rn=nb:=by have h1:=CK.o.tb.zB.rows.hlen;have h2:=HT.o.len;omega
     have Dn:bn=nb:=by have h1:=CK.o.tb.zB.basis.hlen;have h2:=HT.o.zM;omega
     subst zu;subst Dn;clear OJ;by_cases hlt:k<bn
     ·obtain⟨eb,vd,AD,xj⟩:=CK.o.tb.zB.basis.at hlt;subst AD;obtain⟨b,hb⟩:=b9 (tt.basis[k]?.getD 0);rw[<-hb]at xj;have HB:=ae hb;clear hb;by_cases Hh:b<(nc:Int)
      ·have HD1:=ae (lz HD.o (by rw[<-HB.o];exact Hh));go_wp2_with fail
       go_roundg (g1-1)
       case measure=>have:=HK.o;omega
       case rel=>exact⟨k+1,tt,lf,_,_,_,_,_,_,_,ae (j1 HK.o),by go_num,HD1,CK,HM⟩
      ·have Ef:=ae (show¬tt.basis[k]?.getD 0<nc by rw[<-HB.o];exact Hh);have ze:=ae (CK.o.tb.zB.rows.at hlt);have RF:=HT.o.row k hlt;have xW:=ae RF.1;have L0:=ae HT.o.bounds;clear RF
       go_upto_block 4 with fail
       go_cut [] (fun wx=>Left w1.heap.size o8 wx ((aY nc (q1.t,q1.left) (k+1)).map fun x=>(x.1,1000-x.2)))
       case first =>
        go_wp2_with fail
        go_loopg [112] nc (fun gk jj wr=>∃j:Nat,b7 (gk+j=nc)/\jj=.int .i64 (j:Int)/\b7 (((tt.row k).take j).all (fun c=>!zq c)=true)/\b7 (Ext o8 wr))
        case atStart=>exact⟨0,ae e7,rfl,ae rfl,ae (Ext.refl _)⟩
        case round =>
         obtain⟨g2,wv⟩:=b9 gk;subst wv;obtain⟨I,vo⟩:=b9 wr;subst vo;obtain⟨j,HJ,rfl,HA,wF⟩:=hrel;clear c0 c1 c2 c3 c4 O xj;have yX:=ae (CK.o.ext wF.o);obtain⟨c0,c1,c2,c3,c4,O⟩:=yX.o.cells;by_cases yW:j<nc
         ·obtain⟨IH,zT,ya,yn,yc,FQ,xr,o7⟩:=yX.o.tb.zB.rows.at hlt;subst FQ;have A5:yn=nc+bn+1:=by rw[<-o7.hlen];exact xW.o
          have xG:=o7.l8;have Bt:=o7.o0;obtain⟨yb,vB,p,q,Bs,vK,EP,EO⟩:=o7.at (show j<yn by omega);subst Bs;have RM:(j:Int)<(yn:Int):=by omega
          have wI:=ae (show(tt.row k)[j]?.getD (0,0)=(p,q)from vK);have HROW2:=ae o7;clear vK o7 A5;go_upto_region 27 with fail
          go_cut [127] (fun Wl wx=>Wl=.bool (zq (p,q))/\b7 (Ext I wx))
          case first =>
           cases h1:(p == 0)
           all_goals
            cases h2:(q == 1)
           all_goals
            have Pb:=ae (Mw p q);rw[h1,h2]at Pb;have k7:Ext I I.drew:=Ext.drew I;have vt:=k7;have k8:=ae (fun(w':World) (h:Ext I w')=>(⟨h.j9 c0,h.j9 xr,h.j9 EP,h.j9 EO,h⟩:w'.cell? ⟨w1.heap.size,0,none⟩=some (.slice (some ⟨IH,zT,none⟩) bn rc)/\w'.cell? ⟨IH,zT+k,none⟩=some (.slice (some ⟨yb,vB,none⟩) yn yc)/\w'.cell? ⟨yb,vB+j*2,none⟩=some (.int .i64 p)/\w'.cell? ⟨yb,vB+j*2+1,none⟩=some (.int .i64 q)/\Ext I w'))
            go_region_held3 (fun w'=>w'.cell? ⟨w1.heap.size,0,none⟩=some (.slice (some ⟨IH,zT,none⟩) bn rc)/\w'.cell? ⟨IH,zT+k,none⟩=some (.slice (some ⟨yb,vB,none⟩) yn yc)/\w'.cell? ⟨yb,vB+j*2,none⟩=some (.int .i64 p)/\w'.cell? ⟨yb,vB+j*2+1,none⟩=some (.int .i64 q)/\Ext I w')
             (with_reducible exact k8.o _ k7)
             (first
               | (go_at_call 71
                  (with_reducible refine(cv 0 _).mono ?_)
                  rintro e w7 ⟨rfl,vN⟩;have k7:Ext I w7:=k7.trans vN
                  have Ow:=k7.size)
               | fail)
            clear k8 vt;go_wp2_with fail;go_meet;exact⟨by rw[Pb.o];rfl,ae k7⟩
          obtain⟨rfl,Bz⟩:=hcut;have vk:=ae (wF.o.trans Bz.o);have zR:=ae (yX.o.ext Bz.o);clear c0 c1 c2 c3 c4 O xr EP EO;cases hoff:zq (p,q)
          ·have HA2:=ae (nH (by rw[xW.o];omega) wI.o HA.o hoff);clear hoff;go_wp2_with fail
           go_roundg (g2-1)
           case measure=>have:=HJ.o;omega
           case rel=>exact⟨j+1,ae (j1 HJ.o),by go_num,HA2,vk⟩
          ·have BD:=ae (lv HD.o (j1 Ef.o) yW (by rw[xW.o];omega) HA.o (by rw[wI.o];exact hoff) Tk);have B1:=ae (rt zR.o HT.o e7 e7 e7 (k:Int) (j:Int));clear hoff;go_wp2_with fail;refine B1.o.mono ?_;rintro e w6 ⟨rfl,Vw⟩;have Ei:=ae (Left.more vk.o Vw);clear Vw;go_wp2_with fail;go_meet;rw[BD.o];exact Ei.o
         ·have A6:nc=j:=by have:=HJ.o;omega
          have BD:=ae (lw HD.o (j1 Ef.o) (by rw[A6];exact HA.o));clear A6;go_wp2_with fail;go_meet;rw[BD.o];exact⟨Mod.of wF.o,_,_,_,_,_,_,_,yX.o⟩
       obtain⟨PY,FN,FM,rc',ba',Ga,bc',vs',wD⟩:=hcut;have UU:=ae (HM.o.trans PY);clear PY c0 c1 c2 c3 c4 O xj;cases hd:aY nc (q1.t,q1.left) (k+1)with
       | none =>
         rw[hd]at wD;obtain⟨t',n',Oy⟩:=wD;have VV:=ae Oy;have B2:=ae (show xF A B C=none by rw[CO.o,yw.o,xi.o,jm hd e7];rfl);clear Oy hd;obtain⟨c0,c1,c2,c3,c4,O⟩:=VV.o.cells;have Iw:=ae (UU.o.ext QM.o (j1 OZ.o.size));obtain⟨l0,l1,l2,l3,l4,l5,l6,Pw⟩:=vH (Iw.o.blk wL.o);go_wp2_with fail;refine bodyPost_ret (v:=.tuple #[zg (aM 0) none 0 0 none 0 0 none 0 0,.bool false]) (by simp[results,Tryz.results129,go_sem,l0,l1,l2,l3,l4,l5,l6,Pw,aM]) rfl ⟨?_,(uV.o.trans Iw.o).wY (Nat.le_succ _) _ _ _ _ _ _ _⟩;rw[B2.o];exact⟨aM 0,none,0,0,none,0,0,none,0,0,rfl⟩
       | some st =>
         obtain⟨t',f'⟩:=st;rw[hd]at wD;have HD':=ae hd;have VV:=ae (show dj wc w1.heap.size FN FM rc' ba' Ga bc' vs' t' (1000-f') false from wD);clear wD hd;obtain⟨c0,c1,c2,c3,c4,O⟩:=VV.o.cells;go_wp2_with fail
         go_roundg (g1-1)
         case measure=>have:=HK.o;omega
         case rel=>exact⟨k+1,t',f',_,_,_,_,_,_,_,ae (j1 HK.o),by go_num,HD',VV,UU⟩
     ·have vZ:bn=k:=by have:=HK.o;omega
      subst vZ;have Iw:=ae (HM.o.ext QM.o (j1 OZ.o.size));have Zi:=ae (HZ5.o.mod HM.o FA.o.box);have p2:=av (Iw.o.blk uW.o);have Rq:=ae (nl (H.o.ext Iw.o).c 0 bn e7 e7);clear c0 c1 c2 c3 c4 O;go_wp2_with fail;refine Rq.o.mono ?_;rintro e w6 ⟨⟨v6,rfl,J8⟩,hx⟩;obtain⟨a6,n6,c6,rfl,Eh⟩:=J8.var;have Q2:=ae (CK.o.ext hx);have X6:=ae (Iw.o.trans hx);have HZ6:=ae (Zi.o.ext hx);have K8:=ae (Ol Q2.o HT.o e7 e7 e7 J8);have Sf:=ae (show C++List.replicate bn ((0:Int),(1:Int))=bY C B.length by unfold bY;rw[xi.o]);clear J8 hx Eh p2;go_wp2_with fail;refine K8.o.mono ?_;rintro e w7 ⟨RJ,ra7,Wn,rc7,ba7,Y9,bc7,vs7,Xn⟩;obtain⟨o2,AR⟩:=b9 (aO (bY C B.length) lf tt);have J4:aO (C++List.replicate bn ((0:Int),(1:Int))) (1000-(1000-lf)) tt=o2:=by rw[AR,Sf.o,show 1000-(1000-lf)=lf by omega]
      rw[J4]at Xn;have wG:=ae AR;have HZ7:=ae (HZ6.o.mod RJ Q2.o.box);have X7:=ae (show Ext W w7 from RJ.ext X6.o (j1 OZ.o.size));clear J4 AR RJ;cases o2 with
      | none =>
        obtain⟨v7,col7,t7,n7',rfl,GA⟩:=Xn;have Gj:=ae GA;clear GA;obtain⟨c0,c1,c2,c3,c4,O⟩:=Gj.o.cells;have B2:=ae (show xF A B C=none by rw[CO.o,yw.o,xi.o,HD.o,Option.bind_some];simp only;rw[show bY C bn=bY C B.length by rw[xi.o],<-wG.o];rfl);obtain⟨l0,l1,l2,l3,l4,l5,l6,Pw⟩:=vH (X7.o.blk wL.o);go_wp2_with fail;refine bodyPost_ret (v:=.tuple #[zg (aM 0) none 0 0 none 0 0 none 0 0,.bool false]) (by simp[results,Tryz.results129,go_sem,l0,l1,l2,l3,l4,l5,l6,Pw,aM]) rfl ⟨?_,(uV.o.trans X7.o).wY (Nat.le_succ _) _ _ _ _ _ _ _⟩;rw[B2.o];exact⟨aM 0,none,0,0,none,0,0,none,0,0,rfl⟩
      | some q2 =>
        obtain⟨v7,rfl,Hc,GA⟩:=Xn;obtain⟨a10,n10,c10,rfl,Re⟩:=Hc.var;have Gj:=ae GA;have Fj:=ae Hc;have hinv:=du HT.o wG.o.symm;have yL:=ae hinv.1;have Hu:=ae (dW yL.o hinv.2.1).1;have Q5:=ae hinv.2.2;have A9:=nN HT.o wG.o.symm
        have Dx:=ae (show xF A B C=some (if 0<=q2.ve then⟨3,(xx q2.t).take nc,[],xp q2.t nc q2.ve.toNat bn,(0,0),1000-q2.left⟩
         else⟨1,(xx q2.t).take nc,(List.range bn).map (dE B q2.costs nc),[],uU (q2.costs[nc+bn]?.getD (0,0)),1000-q2.left⟩)by
         rw[CO.o,yw.o,xi.o,HD.o,Option.bind_some];simp only;rw[show bY C bn=bY C B.length by rw[xi.o],<-wG.o];rfl)
        have YM:bn=Y9:=by have h1:=GA.tb.zB.basis.hlen;have h2:=yL.o.zM;omega
        have hr7:bn=Wn:=by have h1:=GA.tb.zB.rows.hlen;have h2:=yL.o.len;omega
        subst YM;subst hr7;clear GA Hc hinv;have Tg:n10=u+1:=by have h1:=Re.o;rw[Hu.o.1]at h1;have:=HU.o;omega
        have B3:=ae Tg;have hr10a:=Fj.o.uZ.l8;have hr10b:=Fj.o.uZ.o0;clear Tg;obtain⟨c0,c1,c2,c3,c4,O⟩:=Gj.o.cells;obtain⟨U,AP⟩:∃p:Int,p=((1000-q2.left:Nat):Int):=⟨_,rfl⟩;have NR:=ae (show(1000:Int)-(q2.left:Int)=U by have:=Q5.o;rw[AP];omega);have UF:=ae AP.symm;clear AP;have Q1:=ae (oZ Gj.o.tb.zB e7 (yL.o.ok e7));have Fw:(xx q2.t).length=nc+bn:=by
         unfold xx;rw[if_pos (yL.o.ok e7),hI,yL.o.q8,yL.o.len];simp
        have zP:=ae Fw;clear Fw;obtain⟨qc,RG⟩:=b9 q2.ve;rw[<-RG]at A9 Dx⊢;clear RG;go_wp2_with fail;refine Q1.o.mono ?_;rintro e w8 ⟨⟨v8,rfl,Ap⟩,hx⟩;obtain⟨ax,nx,cx,rfl,Lf⟩:=Ap.var;have hnx:nx=nc+bn:=by have h1:=Lf.o;rw[zP.o]at h1;omega
        have K0:=ae hx;have NT:=ae Ap;have Ht:=ae (Gj.o.ext hx);have HZ8:=ae (HZ7.o.ext hx);have X8:=ae (X7.o.trans hx);have Cy:=Ap.uZ.l8;have Yq:=Ap.uZ.o0;have Yp:(nc:Int)<=(cx:Int):=by omega
        clear Ap hx hnx Cy c0 c1 c2 c3 c4 O;have hs8:=X8.o.size
        rcases A9 with hc|⟨J,hc,Tq⟩
        ·subst hc
         have FB:=ae (show xF A B C=some ⟨1,(xx q2.t).take nc,(List.range bn).map (dE B q2.costs nc),[],uU (q2.costs[nc+bn]?.getD (0,0)),U⟩by
          rw[Dx.o,if_neg e7,NR.o])
         have LD:IntKind.i64.wrap ((n10:Int)-1)=(u:Int):=by have:=B3.o;rw[IntKind.wrap_i64];omega
         have HC8:=ae (Fj.o.ext K0.o);obtain⟨yb,vB,vx,vy,Bs,F3,AL,xG⟩:=HC8.o.uZ.at (show u<n10 by have:=B3.o;omega);subst Bs;have xK:=Hu.o.2 u (j1 HU.o);rw[F3]at xK;have xK:=aL xK;have MP:-9223372036854775807<=vx:=by have:=xK.2.2.1;simp only at this;omega
         have MO:vx<=9223372036854775807:=by have:=xK.2.2.2;simp only at this;omega
         have K3:=ae (show uU (q2.costs[nc+bn]?.getD (0,0))=(-vx,vy)by rw[<-HU.o,F3];rfl);obtain⟨c0,c1,c2,c3,c4,O⟩:=Ht.o.cells;rw[UF.o]at c3;have DH:(u:Int)<(n10:Int):=by have:=B3.o;omega
         have JS:(0:Int)<=(u:Int):=by omega
         clear F3 xK;go_upto_region 47 with fail
         go_cut [21] (fun sx wx=>∃g:Nat,sx=.pointer (some ⟨g,0,none⟩)/\b7 (A0 w8 wx g 1 (.slice ax nc cx) (.slice none 0 0) (.slice none 0 0) (-vx) vy U))
         case first =>
          have k7:Ext w8 w8.drew:=Ext.drew w8;have k8:=ae (fun(w':World) (h:Ext w8 w')=>(⟨h.j9 AL,h.j9 xG,h.j9 c3,h⟩:w'.cell? ⟨yb,vB+u*2,none⟩=some (.int .i64 vx)/\w'.cell? ⟨yb,vB+u*2+1,none⟩=some (.int .i64 vy)/\w'.cell? ⟨w1.heap.size,3,none⟩=some (.int .i64 U)/\Ext w8 w'));refine wp_region_held_drew (S:=(fun w'=>w'.cell? ⟨yb,vB+u*2,none⟩=some (.int .i64 vx)/\w'.cell? ⟨yb,vB+u*2+1,none⟩=some (.int .i64 vy)/\w'.cell? ⟨w1.heap.size,3,none⟩=some (.int .i64 U)/\Ext w8 w')) e9 ?_ (fun k9=>?_)
          ·exact k8.o _ k7
          refine tk 0 ?_;refine tk 1 ?_;refine tk 2 ?_;refine tk 3 ?_;refine tk 4 ?_;refine tk 5 ?_;refine tk 6 ?_;refine tk 8 ?_;refine tk 9 ?_;refine tk 10 ?_;refine tk 11 ?_;refine wpAnyH_ready (rs:=[7,13]) e9 e8 ?_;refine AllReadyH.cons (o:=?_) ?_ (fun K hK=>?_) ?_;rotate_left
          ·simp only[gA,gB,gC];rfl
          ·
           go_simp
           (go_at_call 74;refine(dS vx vy _ MP MO).mono ?_;rintro e w9 ⟨rfl,ER⟩;have k7:=k7.trans ER)
           go_wp2_with fail;refine hK.out _ _ ?_ (fun k9=>?_)
           ·exact k8.o _ k7
           clear hK K
           try simp only[Act.put,sA,sB,sC]
           refine tk 12 ?_;have AZ:=A0.new k7;refine rd (i:=13) (h:=fun K hK=>?_);go_simp;refine hK.out _ _ ?_ (fun k9=>?_)
           ·exact k8.o _ AZ.ext
           clear hK K
           try simp only[Act.put,sA,sB,sC]
           obtain⟨gz,DL⟩:=b9 w9.heap.size;rw[<-DL]at AZ;rw[<-DL];obtain⟨WZ,Qt⟩:=b9 (w9.alloc LB);rw[<-Qt]at AZ k9;rw[<-Qt];clear Qt DL;have Ag:=AZ.c0;have Af:=AZ.c1;have Ub:=AZ.c2;have b3_:=AZ.c3;have b4_:=AZ.c4;have b5_:=AZ.c5;have b6_:=AZ.c6;have T':=AZ.free;refine rd (i:=14) (h:=fun K hK=>?_);go_simp;refine hK.out _ _ ?_ (fun k9=>?_)
           ·exact k8.o _ (AZ.put _ _ _ _ _ _ _).ext
           clear hK K
           try simp only[Act.put,sA,sB,sC]
           refine wpAnyH_done e9 ?_ _;go_wp2_with fail;go_meet;exact⟨_,rfl,ae (AZ.put _ _ _ _ _ _ _)⟩
          refine AllReadyH.cons (o:=?_) ?_ (fun K hK=>?_) AllReadyH.nil;rotate_left
          ·simp only[gA,gB,gC];rfl
          have AZ:=A0.vm (Ext.refl (w8.alloc LB).drew);go_simp;refine hK.out _ _ ?_ (fun k9=>?_)
          ·exact k8.o _ AZ.ext
          clear hK K
          try simp only[Act.put,sA,sB,sC]
          obtain⟨gz,DL⟩:=b9 w8.heap.size;rw[<-DL]at AZ;rw[<-DL];obtain⟨WZ,Qt⟩:=b9 ((w8.alloc LB).drew);rw[<-Qt]at AZ k9;rw[<-Qt];clear Qt DL;refine rd (i:=7) (h:=fun K hK=>?_);go_simp
          (go_at_call 74;refine(dS vx vy _ MP MO).mono ?_;rintro e w9 ⟨rfl,ER⟩;have AZ:=AZ.grow ER;have k7:=AZ.ext)
          go_wp2_with fail;refine hK.out _ _ ?_ (fun k9=>?_)
          ·exact k8.o _ k7
          clear hK K
          try simp only[Act.put,sA,sB,sC]
          have Ag:=AZ.c0;have Af:=AZ.c1;have Ub:=AZ.c2;have b3_:=AZ.c3;have b4_:=AZ.c4;have b5_:=AZ.c5;have b6_:=AZ.c6;have T':=AZ.free;refine tk 12 ?_;refine rd (i:=14) (h:=fun K hK=>?_);go_simp;refine hK.out _ _ ?_ (fun k9=>?_)
          ·exact k8.o _ (AZ.put _ _ _ _ _ _ _).ext
          clear hK K
          try simp only[Act.put,sA,sB,sC]
          refine wpAnyH_done e9 ?_ _;go_wp2_with fail;go_meet;exact⟨_,rfl,ae (AZ.put _ _ _ _ _ _ _)⟩
         obtain⟨g,rfl,xi⟩:=hcut;have FG:=ae (show Ix wc w8.heap.size g 1 (.slice ax nc cx) (.slice none 0 0) (.slice none 0 0) (-vx) vy U ((List.range 0).map (dE B q2.costs nc))from⟨xi.o.box,xi.o.hg,l9.nil _ _⟩);have Bz:=ae xi.o.ext;clear xi c0 c1 c2 c3 c4 O AL xG LD;go_wp2_with fail
         go_loopg [219] bn (fun gk ii wr=>∃(k:Nat) (vY:Value),b7 (gk+k=bn)/\ii=.int .i64 (k:Int)/\b7 (Ix wr w8.heap.size g 1 (.slice ax nc cx) vY (.slice none 0 0) (-vx) vy U ((List.range k).map (dE B q2.costs nc)))/\b7 (Ext w8 wr))
         case atStart=>exact⟨0,_,ae e7,rfl,FG,Bz⟩
         case round =>
          obtain⟨g2,wv⟩:=b9 gk;subst wv;obtain⟨I,vo⟩:=b9 wr;subst vo;obtain⟨k,vY,H8,rfl,HL,HX⟩:=hrel;have MV:=HX.o.size;have NJ:=ae (X8.o.trans HX.o);by_cases hlt:k<bn
          ·obtain⟨z,hz⟩:=b9 (nc+k);have Su:z<n10:=by have:=HU.o;have:=B3.o;omega
           obtain⟨Wh,IF,ex,Z,Cl,Ir,xj,AY⟩:=(HC8.o.ext HX.o).uZ.at Su;simp only[Option.some.injEq,Addr.mk.injEq,and_true]at Cl;obtain⟨rfl,rfl⟩:=Cl;have xK:=Hu.o.2 z (by have:=HU.o;have:=B3.o;omega);rw[Ir]at xK;have xK:=aL xK;have Ym:-9223372036854775807<=ex:=by have:=xK.2.2.1;simp only at this;omega
           have Yl:ex<=9223372036854775807:=by have:=xK.2.2.2;simp only at this;omega
           have Xu:-9223372036854775807<=-ex:=by have:=xK.2.2.2;simp only at this;omega
           have Xt:-ex<=9223372036854775807:=by have:=xK.2.2.1;simp only at this;omega
           obtain⟨yB,yoffB,YI,At⟩:=(H.o.ext NJ.o).b.at hlt;subst YI;obtain⟨bi,Bx⟩:=b9 (B[k]?.getD 0);rw[<-Bx]at At;have Ic:=ae (show dE B q2.costs nc k=yz bi (-ex,Z)by unfold dE;rw[<-hz,Ir,Bx];rfl);have hwz:IntKind.i64.wrap ((nc:Int)+(k:Int))=(z:Int):=by rw[IntKind.wrap_i64];omega
           have JH:(z:Int)<(n10:Int):=by omega
           have JI:(0:Int)<=(z:Int):=by omega
           have Lw:=ae Bx;clear Ir Bx hz xK At;go_wp2_with fail;refine(dS ex Z _ Ym Yl).mono ?_;rintro e w9 ⟨rfl,hx⟩;obtain⟨E2,Nr⟩:=b9 (w9.alloc (.cells #[.int .i64 (-ex),.int .i64 Z] 62));have Q:=ae (show ag I E2 w9.heap.size (-ex) Z by rw[Nr];exact ag.new hx _ _);obtain⟨gb,Fa⟩:=b9 w9.heap.size;rw[<-Fa]at Q;have GL:=ae (NJ.o.trans Q.o.ext);go_upto_region 52 with fail;rw[<-Nr,<-Fa];clear Nr Fa hx hwz JH JI xj AY;have p1:=au (GL.o.blk uW.o);obtain⟨bb',T9,Kr,At⟩:=(H.o.ext GL.o).b.at hlt;simp only[Option.some.injEq,Addr.mk.injEq,and_true]at Kr;obtain⟨rfl,rfl⟩:=Kr;rw[<-Lw.o]at At;have HL2:=ae (HL.o.ext Q.o.ext);have wF:=ae (HX.o.trans Q.o.ext);obtain⟨e1,AB⟩:∃e1,yz bi (-ex,Z)=(e1,Z):=by unfold yz uU;split<;>exact⟨_,rfl⟩
           have A1:=ae AB;clear AB
           go_upto_if 234 with fail
           go_cut [6] (fun s6 wx=>s6=.pointer (some ⟨w1.heap.size,0,none⟩)/\b7 (ag I wx gb e1 Z))
           case first =>
            have g0:=Q.o.c0;have g1':=Q.o.c1;have gf:=Q.o.free;by_cases Dn:bi<0
            ·have AY:ex=e1:=by have:=A1.o;unfold yz uU at this;rw[if_pos Dn]at this;exact(Int.neg_neg ex).symm.trans (congrArg Prod.fst this)
             subst AY;rw[show decide (bi<0)=true from decide_eq_true Dn];go_wp2_with fail;refine(dS (-ex) Z _ Xu Xt).mono ?_;rintro e w9 ⟨rfl,hx⟩;have yN:=ae (Q.o.grow hx);clear hx g0 g1' gf;have g0:=yN.o.c0;have g1':=yN.o.c1;have gf:=yN.o.free;go_wp2_with fail;go_meet;exact⟨rfl,ae (yN.o.put _ _)⟩
            ·have AY:e1=-ex:=by have:=A1.o;unfold yz at this;rw[if_neg e7]at this;exact(congrArg Prod.fst this).symm
             subst AY;rw[show decide (bi<0)=false from decide_eq_false e7];go_wp2_with fail;go_meet;exact⟨rfl,Q⟩
           obtain⟨rfl,yF⟩:=hcut;have Bj:=ae (HL.o.ext yF.o.ext);have vk:=ae (HX.o.trans yF.o.ext);have g0:=yF.o.c0;have g1':=yF.o.c1;have y2:=(vH Bj.o.box).2.2.1;have Ev:=yF.o.lt;have hlb:=lt_of_block Bj.o.box;have Cs:=vk.o.size;have Du:=ae (show((List.range k).map (dE B q2.costs nc)).length=k by simp);have xZ:=ae (show(List.range k).map (dE B q2.costs nc)++[(e1,Z)]=(List.range (k+1)).map (dE B q2.costs nc)by rw[<-A1.o,<-Ic.o];exact cM _ _);have Tv:=Bj.o.hg;clear p1 At
           go_wp2_with (first
            | (at_builtin;refine aI rfl _ _ rfl w8.heap.size vY _ rfl (Bj.o.y.ext (Ext.alloc _ _)) _ 1 _ [(e1,Z)] rfl (Rats.one' _ _ _ _ _ e8) (by rw[Du.o];omega) (by simp;omega) ?_;intro v9 w9 ho hg l7;obtain⟨a9,n9,q9,rfl,LZ⟩:=ho.var;have Dz:=ae ho;have Rm:=ae hg;have yi:=Bj.o.QI (Ext.alloc _ _) hg;have VQ:=(vH yi).2.2.1;have VN:=(vH yi).2.2.2.2.2.2.2;have Qr:Ext w8 w9:=ak (Ext.trans vk.o (Ext.alloc _ _)) hg (fun j hj=>(Bj.o.y.lt j hj).1);clear ho hg l7 yi))
           have Sb:=ae (Bj.o.Og (Ext.alloc _ _) Rm.o Dz.o);have D7:=ae (Qr.setCell (p:=⟨g,2,none⟩) Tv (.slice a9 n9 q9))
           go_roundg (g2-1)
           case measure=>have:=H8.o;omega
           case rel=>exact⟨k+1,_,ae (j1 H8.o),by go_num,ae (by rw[<-xZ.o];exact Sb.o),D7⟩
          ·have vZ:bn=k:=by have:=H8.o;omega
           subst vZ;obtain⟨ay,ny,cy,rfl,HNY⟩:=HL.o.y.var;obtain⟨m0,m1,m2,m3,m4,m5,m6,mf⟩:=vH HL.o.box;obtain⟨l0,l1,l2,l3,l4,l5,l6,Pw⟩:=vH (NJ.o.blk wL.o);have Ct:=lt_of_block HL.o.box;have SR:=X7.o.size;have PM:=X8.o.size;have WV:=zx.o;go_wp2_with fail;refine bodyPost_ret (v:=.tuple #[zg ⟨1,(xx q2.t).take nc,(List.range bn).map (dE B q2.costs nc),[],(-vx,vy),U⟩ ax nc cx ay ny cy none 0 0,.bool true]) (by simp[results,Tryz.results129,go_sem,l0,l1,l2,l3,l4,l5,l6,Pw]) rfl ⟨?_,(uV.o.trans NJ.o).wY (Nat.le_succ _) _ _ _ _ _ _ _⟩;rw[FB.o,K3.o];refine⟨ax,nc,cx,ay,ny,cy,none,0,0,rfl,?_,?_,?_⟩
           ·exact((NT.o.ext HX.o).keep fun i hi=>bC _ (j1 ((NT.o.lt i hi).1)) _ _ _ _ _ _ _).DY (by have:=uV.o.size;have:=OZ.o.size;have:=X7.o.size;omega) (by have h1:=Lf.o;rw[zP.o]at h1;omega)
           ·exact(HL.o.y.keep fun i hi=>bC _ (j1 ((HL.o.y.lt i hi).1)) _ _ _ _ _ _ _).zV (by have:=uV.o.size;have:=X8.o.size;omega)
           ·exact fun W _=>Rats.Ci W
        ·subst hc
         have FB:=ae (show xF A B C=some ⟨3,(xx q2.t).take nc,[],xp q2.t nc J bn,(0,0),U⟩by
          rw[Dx.o,if_pos e7,NR.o,Int.toNat_natCast])
         have Uw:=ae (gV HZ8.o.ints e7);rw[HZR.o]at Uw;go_wp2_with fail;refine Uw.o.mono ?_;rintro e w9 ⟨⟨v9,rfl,Im⟩,hx⟩;obtain⟨a9,n9,c9,rfl,LZ⟩:=Im.var;obtain rfl:nc=n9:=by have h1:=LZ.o;rw[List.length_replicate]at h1;exact h1
         obtain⟨G,hG,CB,DN,Hl⟩:=Im.block (k:=J) Tq;subst hG;have Dz:=ae Im;have Ez:=ae hx;have hjc2:(J:Int)<(nc:Int):=by omega
         clear Im hx;go_wp2_with fail;refine(cv 1 _).mono ?_;rintro e DW ⟨rfl,hx⟩;have Aj:=ae (Dz.o.ext hx);have NN:=ae (Ez.o.trans hx);obtain⟨G',GI,VM,VL,zi,BV,DM,Cx⟩:=Aj.o.uZ.at Tq;simp only[Option.some.injEq,Addr.mk.injEq,and_true]at zi;obtain⟨rfl,rfl⟩:=zi;rw[Nat.zero_add]at DM Cx;have QA:=Nat.lt_of_lt_of_le Hl hx.size;have Qa:∀j,DW.frozen? ⟨G,j,none⟩=false:=fun j=>(hx.frozen (p:=⟨G,j,none⟩) Hl).trans (DN j)
         have VX:=ae (show l9 ((DW.setCell ⟨G,J*2,none⟩ (.int .i64 1)).setCell ⟨G,J*2+1,none⟩ (.int .i64 1)) w8.heap.size (.slice (some ⟨G,0,none⟩) nc c9) (xp q2.t nc J 0)by
          rw[uu];exact Aj.o.set (k:=J) (by simp;omega) 1 1)
         have Hr:=ae ((NN.o.setCell (p:=⟨G,J*2,none⟩) CB (.int .i64 1)).setCell (p:=⟨G,J*2+1,none⟩) CB (.int .i64 1));clear BV hx DN;go_upto_region 40 with fail;obtain⟨DB,FW⟩:=b9 ((DW.setCell ⟨G,J*2,none⟩ (.int .i64 1)).setCell ⟨G,J*2+1,none⟩ (.int .i64 1));rw[<-FW]at VX Hr;rw[<-FW];clear FW DM Cx Qa QA Hl;have Dw:=ae (Ht.o.ext Hr.o);obtain⟨c0,c1,c2,c3,c4,O⟩:=Dw.o.cells;go_wp2_with fail
         go_loopg [174] bn (fun gk ii wr=>∃i:Nat,b7 (gk+i=bn)/\ii=.int .i64 (i:Int)/\b7 (l9 wr w8.heap.size (.slice (some ⟨G,0,none⟩) nc c9) (xp q2.t nc J i))/\b7 (Ext w8 wr))
         case atStart=>exact⟨0,ae e7,rfl,VX,Hr⟩
         case round =>
          obtain⟨g2,wv⟩:=b9 gk;subst wv;obtain⟨I,vo⟩:=b9 wr;subst vo;obtain⟨i,HI,rfl,HR,By⟩:=hrel;clear c0 c1 c2 c3 c4 O;have yX:=ae (Ht.o.ext By.o);obtain⟨c0,c1,c2,c3,c4,O⟩:=yX.o.cells;rw[UF.o]at c3;have EW:=By.o.size;by_cases Ar:i<bn
          ·obtain⟨eb,vd,AD,xj⟩:=yX.o.tb.zB.basis.at Ar;subst AD;obtain⟨bb,xS⟩:=b9 (q2.t.basis[i]?.getD 0);rw[<-xS]at xj;have AF:=ae xS;have CY:0<=bb/\bb<nc+bn:=by
            rw[xS,List.getElem?_eq_getElem (by rw[yL.o.zM];exact Ar)];exact yL.o.NF _ (List.getElem_mem _)
           clear xS;by_cases Hh:bb<(nc:Int)
           ·obtain⟨bN,YK⟩:∃n:Nat,bb=n:=⟨bb.toNat,by omega⟩;subst YK;have Fe:bN<nc:=by omega
            obtain⟨IH,zT,ya,yn,yc,FQ,xr,o7⟩:=yX.o.tb.zB.rows.at Ar;subst FQ;have A5:yn=nc+bn+1:=by rw[<-o7.hlen];exact(yL.o.row i Ar).1
            have xG:=o7.l8;have Bt:=o7.o0;obtain⟨yb,vB,p,q,Bs,vK,EP,EO⟩:=o7.at (show J<yn by omega);subst Bs;have RM:(J:Int)<(yn:Int):=by omega
            have wI:=ae (show q2.t.at i J=(p,q)from vK);have CV:-9223372036854775807<=p:=by have:=(yL.o.bounds.2 i J).1;rw[wI.o]at this;exact this
            have Dk:p<=9223372036854775807:=by have:=(yL.o.bounds.2 i J).2;rw[wI.o]at this;exact this
            clear vK o7 A5 CY;go_wp2_with fail;refine(dS p q _ CV Dk).mono ?_;rintro e Bp ⟨rfl,hx⟩;have Ec:=ae (HR.o.ext hx);have NM:=ae (By.o.trans hx);obtain⟨G',GI,VM,VL,zi,BV,DM,Cx⟩:=Ec.o.uZ.at Fe;simp only[Option.some.injEq,Addr.mk.injEq,and_true]at zi;obtain⟨rfl,rfl⟩:=zi;rw[Nat.zero_add]at DM Cx;obtain⟨G2,TT,Qn,Qa,QA⟩:=Ec.o.block (k:=bN) Fe;simp only[Option.some.injEq,Addr.mk.injEq,and_true]at TT;subst TT
            have LX:=ae (show l9 ((Bp.setCell ⟨G,bN*2,none⟩ (.int .i64 (-p))).setCell ⟨G,bN*2+1,none⟩ (.int .i64 q)) w8.heap.size (.slice (some ⟨G,0,none⟩) nc c9) (xp q2.t nc J (i+1))by
             rw[kM (by rw[<-AF.o];omega),<-AF.o,Int.toNat_natCast,wI.o]
             exact Ec.o.set (k:=bN) (by rw[gX];exact Fe) (-p) q)
            have D7:=ae ((NM.o.setCell (p:=⟨G,bN*2,none⟩) Qn (.int .i64 (-p))).setCell (p:=⟨G,bN*2+1,none⟩) Qn (.int .i64 q));clear BV hx c0 c1 c2 c3 c4 O;go_wp2_with fail
            go_roundg (g2-1)
            case measure=>have:=HI.o;omega
            case rel=>exact⟨i+1,ae (j1 HI.o),by go_num,LX,D7⟩
           ·have LX:=ae (show l9 I w8.heap.size (.slice (some ⟨G,0,none⟩) nc c9) (xp q2.t nc J (i+1))by rw[mI (by rw[<-AF.o];omega)];exact HR.o);clear CY;go_wp2_with fail
            go_roundg (g2-1)
            case measure=>have:=HI.o;omega
            case rel=>exact⟨i+1,ae (j1 HI.o),by go_num,LX,By⟩
          ·have wq:bn=i:=by have:=HI.o;omega
           subst wq;obtain⟨l0,l1,l2,l3,l4,l5,l6,Pw⟩:=vH ((X8.o.trans By.o).blk wL.o);have PM:=X8.o.size;have WV:=zx.o;go_wp2_with fail;refine bodyPost_ret (v:=.tuple #[zg ⟨3,(xx q2.t).take nc,[],xp q2.t nc J bn,(0,0),U⟩ ax nc cx none 0 0 (some ⟨G,0,none⟩) nc c9,.bool true]) (by simp[results,Tryz.results129,go_sem,l0,l1,l2,l3,l4,l5,l6,Pw]) rfl ⟨?_,(uV.o.trans (X8.o.trans By.o)).wY (Nat.le_succ _) _ _ _ _ _ _ _⟩;rw[FB.o];refine⟨ax,nc,cx,none,0,0,some ⟨G,0,none⟩,nc,c9,rfl,?_,?_,?_⟩
           ·exact((NT.o.ext By.o).keep fun i hi=>bC _ (by have:=(NT.o.lt i hi).1;have:=X7.o.size;omega) _ _ _ _ _ _ _).DY (by have:=uV.o.size;have:=OZ.o.size;have:=X7.o.size;omega) (by have h1:=Lf.o;rw[zP.o]at h1;omega)
           ·exact fun W _=>Rats.Ci W
           ·exact(HR.o.keep fun i hi=>bC _ (j1 ((HR.o.lt i hi).1)) _ _ _ _ _ _ _).zV (by have:=uV.o.size;have:=X8.o.size;omega)
end
def LP(w:World)(base:Nat)(e:Ending)(r:yu):Prop:=∃xa xn xc ya yn yc ra rn rc,e=.returned (zg r xa xn xc ya yn yc ra rn rc)/\zN w base xa xn xc ya yn yc ra rn rc r
theorem LP.zero(w:World)(base:Nat)(s:Int):LP w base (.returned (zg (aM s) none 0 0 none 0 0 none 0 0)) (aM s):=⟨none,0,0,none,0,0,none,0,0,rfl,zN.zero w base s⟩
section
variable{w:World}{a:j6}{na ca:Nat}{b:j6}{nb cb:Nat}{c:j6}{nc cc:Nat}{A:j5}{B:j7}{C:j4}
theorem nk(h:Bf w a na ca b nb cb c nc cc A B C):
 Calls Tryz.prog 70 #[Al a na ca b nb cb c nc cc] w fun e w'=>LP w' w.heap.size e (be am A B C)/\Ext w w':=by
 have uS:=(Ext.alloc w (aV a na ca b nb cb c nc cc)).trans (Ext.alloc _ LB);obtain⟨W,hW⟩:=b9 ((w.alloc (aV a na ca b nb cb c nc cc)).alloc LB);rw[<-hW]at uS;have uV:=ae uS;have H:=ae (h.ext uS);have wL:=ae (show W.heap[w.heap.size+1]?=some (.cells #[.int .i64 0,.slice none 0 0,.slice none 0 0,.slice none 0 0,.int .i64 0,.int .i64 0,.int .i64 0] 72 (0,0))by rw[hW];exact aj _ _ _ e8);have uW:=ae (show W.heap[w.heap.size]?=some (.cells #[.slice a na ca,.slice b nb cb,.slice c nc cc] 68 (0,0))by rw[hW,bU _ _ _ e8];exact aj _ _ _ rfl);have zx:=ae (show W.heap.size=w.heap.size+1+1 by rw[hW];simp);have HV:=ae (ee H.o);clear uS;cases wj:vG A B C
 ·rw[wj]at HV;have HR:=ae (show be am A B C=aM 0 by unfold be;rw[wj];rfl);clear h wj;go_enter Tryz.func70,Tryz.ntmps70
  go_upto_region 1 with fail;rw[<-hW];clear hW;have p0:=al uW.o;have p1:=au uW.o;have p2:=av uW.o;go_wp2_with fail;refine HV.o.mono ?_;rintro e w1 ⟨rfl,hx⟩;have X1:=ae hx;obtain⟨l0,l1,l2,l3,l4,Z,U,Q⟩:=vH (X1.o.blk wL.o);clear hx p0 p1 p2;go_wp2_with fail;refine bodyPost_ret (v:=zg (aM 0) none 0 0 none 0 0 none 0 0) (by simp[results,Tryz.results70,go_sem,l0,l1,l2,l3,l4,Z,U,Q,aM]) rfl ⟨?_,(uV.o.trans X1.o).wY (Nat.le_succ _) _ _ _ _ _ _ _⟩;rw[HR.o];exact LP.zero _ _ _
 ·rw[wj]at HV;have xN:=ae wj;have zD:=ae (show be am A B C=match xF A B C with|none=>aM 4|some r=>if aG am A B C r=true then r else aM 4 by unfold be;rw[if_pos wj];cases xF A B C<;>rfl);have CJ:=ae (fun(W':World) (hx:Ext W W')=>MI (H.o.ext hx) xN.o);obtain⟨o,ho⟩:=b9 (xF A B C);rw[<-ho]at zD;simp only[<-ho]at CJ;clear h wj ho;go_enter Tryz.func70,Tryz.ntmps70
  go_upto_region 1 with fail;rw[<-hW];clear hW;have p0:=al uW.o;have p1:=au uW.o;have p2:=av uW.o;go_wp2_with fail;refine HV.o.mono ?_;rintro e w1 ⟨rfl,hx⟩;have X1:=ae hx;clear hx p0 p1 p2;have p0:=al (X1.o.blk uW.o);have p1:=au (X1.o.blk uW.o);have p2:=av (X1.o.blk uW.o);go_wp2_with fail;refine(CJ.o _ X1.o).mono ?_;rintro e w2 ⟨hs,hx⟩;have X2:=ae (X1.o.trans hx);clear hx p0 p1 p2;cases o with
  | none =>
    obtain⟨r,O,J,K,I,E,G,ra,rn,rc,rfl⟩:=hs;have X3:=ae (X2.o.trans (Ext.alloc w2 (bH r O J K I E G ra rn rc)));obtain⟨rs,rX,rY,rr,⟨vR,vQ⟩,rp⟩:=r;obtain⟨l0,l1,l2,l3,l4,Z,U,Q⟩:=vH (X3.o.blk wL.o);go_wp2_with fail;refine bodyPost_ret (v:=zg (aM 4) none 0 0 none 0 0 none 0 0) (by simp[results,Tryz.results70,go_sem,l0,l1,l2,l3,l4,Z,U,Q,aM]) rfl ⟨?_,(uV.o.trans X3.o).wY (Nat.le_succ _) _ _ _ _ _ _ _⟩;rw[zD.o];exact LP.zero _ _ _
  | some r =>
    obtain⟨O,J,K,I,E,G,ra,rn,rc,rfl,AW⟩:=hs;have X3:=ae (X2.o.trans (Ext.alloc w2 (bH r O J K I E G ra rn rc)));have H6:=ae (AW.ext (Ext.alloc w2 (bH r O J K I E G ra rn rc)));have xE:=ae (AW.here.ext (Ext.alloc w2 (bH r O J K I E G ra rn rc)));have Lu:=ae (fun(W':World) (hx:Ext (w2.alloc (bH r O J K I E G ra rn rc)) W')=>tP (H.o.ext (X3.o.trans hx)) (xE.o.ext hx) xN.o);obtain⟨ck,Qh⟩:=b9 (aG am A B C r);have K6:=ae (show be am A B C=if ck=true then r else aM 4 by rw[zD.o,Qh]);simp only[<-Qh]at Lu;have Ak:=ae (show(w2.alloc (bH r O J K I E G ra rn rc)).heap[w2.heap.size]?=some (bH r O J K I E G ra rn rc)from aj _ _ _ rfl);obtain⟨WR,TQ⟩:=b9 (w2.alloc (bH r O J K I E G ra rn rc));obtain⟨gr,zh⟩:=b9 w2.heap.size;rw[<-TQ,<-zh]at Ak;rw[<-TQ]at X3 xE H6;simp only[<-TQ]at Lu;obtain⟨rs,rX,rY,rr,⟨vR,vQ⟩,rp⟩:=r;clear AW Qh;go_upto_region 4 with fail;rw[<-TQ,<-zh];clear TQ zh;have p0:=al (X3.o.blk uW.o);have p1:=au (X3.o.blk uW.o);have p2:=av (X3.o.blk uW.o);obtain⟨q0,q1,q2,q3,q4,q5,q6,qf⟩:=vH Ak.o;go_wp2_with fail;refine(Lu.o _ (Ext.refl _)).mono ?_;rintro e w4 ⟨rfl,hx⟩;have X4:=ae (X3.o.trans hx);have ZU:=ae (H6.o.ext hx);obtain⟨l0,l1,l2,l3,l4,Z,U,Q⟩:=vH (X4.o.blk wL.o)
    have HBR4:=ae (hx.blk Ak.o);clear hx p0 p1 p2 q0 q1 q2 q3 q4 q5 q6 qf;cases ck
    ·go_wp2_with fail;refine bodyPost_ret (v:=zg (aM 4) none 0 0 none 0 0 none 0 0) (by simp[results,Tryz.results70,go_sem,l0,l1,l2,l3,l4,Z,U,Q,aM]) rfl ⟨?_,(uV.o.trans X4.o).wY (Nat.le_succ _) _ _ _ _ _ _ _⟩;rw[K6.o];exact LP.zero _ _ _
    ·obtain⟨q0,q1,q2,q3,q4,q5,q6,qf⟩:=vH HBR4.o;have BQ:=X1.o.size;have B9:=zx.o;go_wp2_with fail;refine bodyPost_ret (v:=zg ⟨rs,rX,rY,rr,(vR,vQ),rp⟩ O J K I E G ra rn rc) (by simp[results,Tryz.results70,go_sem,l0,l1,l2,l3,l4,Z,U,Q]) rfl ⟨?_,(uV.o.trans X4.o).wY (Nat.le_succ _) _ _ _ _ _ _ _⟩;rw[K6.o];exact⟨O,J,K,I,E,G,ra,rn,rc,rfl,(ZU.o.keep e8 fun k hk _=>bC _ e7 _ _ _ _ _ _ _).mono e7⟩
end
end Go.Proofs.YtdadoignenffgaaGreatDoor
