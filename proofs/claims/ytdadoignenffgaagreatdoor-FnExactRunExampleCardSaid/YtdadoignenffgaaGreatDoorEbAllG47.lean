import Derived.Test.YtdadoignenffgaaGreatDoorEbAllG15
import Derived.Outline
import Derived.Deep.CutBlock
set_option linter.unusedVariables false
set_option linter.unusedSimpArgs false
namespace Go.Proofs.YtdadoignenffgaaGreatDoor
set_option maxHeartbeats 16000000
set_option maxRecDepth 100000
open Go.RowKit
theorem zN{w:World}{g:Nat}{a b c d e f h:Value}{t:TypeId}(hb:w.heap[g]?=some (.cells #[a,b,c,d,e,f,h] t (0,0))):
 w.cell? ⟨g,0,none⟩=some a/\w.cell? ⟨g,1,none⟩=some b/\w.cell? ⟨g,2,none⟩=some c/\w.cell? ⟨g,3,none⟩=some d/\w.cell? ⟨g,4,none⟩=some e/\w.cell? ⟨g,5,none⟩=some f/\w.cell? ⟨g,6,none⟩=some h/\∀k,w.frozen? ⟨g,k,none⟩=false:=by
 refine⟨?_,?_,?_,?_,?_,?_,?_,fun k=>sd w g k _ _ hb⟩<;>rw[tn w g _ _ _ _ hb]<;>rfl
theorem Ext.AP{w w':World}(h:Ext w w'){b:Nat}(hb:w.heap.size<=b)(x0 x1 x2 J x4 I G:Value):
 Ext w (((((((w'.setCell ⟨b,0,none⟩ x0).setCell ⟨b,1,none⟩ x1).setCell ⟨b,2,none⟩ x2).setCell ⟨b,3,none⟩ J).setCell ⟨b,4,none⟩ x4).setCell ⟨b,5,none⟩ I).setCell ⟨b,6,none⟩ G) :=
 ((((((h.setCell (p:=⟨b,0,none⟩) hb _).setCell (p:=⟨b,1,none⟩) hb _).setCell (p:=⟨b,2,none⟩) hb _).setCell (p:=⟨b,3,none⟩) hb _).setCell (p:=⟨b,4,none⟩) hb _).setCell (p:=⟨b,5,none⟩) hb _).setCell (p:=⟨b,6,none⟩) hb _
theorem bU(w':World){b k:Nat}(h:k≠b)(x0 x1 x2 J x4 I G:Value):
 (((((((w'.setCell ⟨b,0,none⟩ x0).setCell ⟨b,1,none⟩ x1).setCell ⟨b,2,none⟩ x2).setCell ⟨b,3,none⟩ J).setCell ⟨b,4,none⟩ x4).setCell ⟨b,5,none⟩ I).setCell ⟨b,6,none⟩ G).heap[k]?=w'.heap[k]?:=by
 rw[bB _ _ _ _ h,bB _ _ _ _ h,bB _ _ _ _ h,bB _ _ _ _ h,bB _ _ _ _ h,bB _ _ _ _ h,bB _ _ _ _ h]
structure Mv(w:World)(base g:Nat)(s:Int)(vx vy vr:Value)(p q piv:Int)(Y:j4):Prop where
 box:w.heap[g]?=some (.cells #[.int .i64 s,vx,vy,vr,.int .i64 p,.int .i64 q,.int .i64 piv] 72 (0,0))
 hg:base<=g
 y:o0 w base vy Y
section
variable{w:World}{base g:Nat}{s:Int}{vx vy vr:Value}{p q piv:Int}{Y:j4}
theorem Mv.ext{w':World}(h:Mv w base g s vx vy vr p q piv Y)(hx:Ext w w'):Mv w' base g s vx vy vr p q piv Y:=⟨(hx.block _ (mr h.box)).trans h.box,h.hg,h.y.ext hx⟩
theorem Mv.Vn{I G:World}(h:Mv w base g s vx vy vr p q piv Y)(hx:Ext w I)(hg:I.grownBy G vy.ownBlock):G.heap[g]?=some (.cells #[.int .i64 s,vx,vy,vr,.int .i64 p,.int .i64 q,.int .i64 piv] 72 (0,0)) :=
 (hg.block g (mr (h.ext hx).box) (au (h.ext hx).y (h.ext hx).box (by decide))).trans (h.ext hx).box
theorem Mv.SI{J G:World}(h:Mv w base g s vx vy vr p q piv Y)(hx:Ext w J){I:Value}{K:j4}(O:J.grownBy G vy.ownBlock)(ho:o0 G base I K):
 Mv (G.setCell ⟨g,2,none⟩ I) base g s vx I vr p q piv K:=by
 have AR:=h.Vn hx O;refine⟨?_,h.hg,ei ho AR (by decide)⟩;have:=ta G g 2 _ _ I AR;exact this
end
theorem Pf(B:j7)(cs:j4){n i z:Nat}{e d:j8}{G:Bool}{bi:Int}(hz:z=n+i)(he:cs[z]?.getD (0,0)=e)(hd:zI (1,1) e=(d,G))(hb:B[i]?.getD 0=bi):fH B (1,1) cs n i=if G=true then some (BX bi d) else none:=by
 unfold fH;rw[<-hz,he,hd,hb]
def SolR(w:World)(base:Nat)(e:Ending)(o:Option BQ):Prop:=match o with
 | some r=>∃xa xn xc ya yn yc ra rn rc,e=.returned (.tuple #[CC r xa xn xc ya yn yc ra rn rc,.bool true])/\Dg w base xa xn xc ya yn yc ra rn rc r
 | none=>∃r xa xn xc ya yn yc ra rn rc,e=.returned (.tuple #[CC r xa xn xc ya yn yc ra rn rc,.bool false])
section
variable{w:World}{a:j6}{na ca:Nat}{b:j6}{nb cb:Nat}{c:j6}{nc cc:Nat}{A:j5}{B:j7}{C:j4}
theorem Rf(h:EA w a na ca b nb cb c nc cc A B C)(ok:zM A B C=true):
 Calls Tryz.prog 129 #[DD a na ca b nb cb c nc cc] w fun e w'=>SolR w' w.heap.size e (Bd A B C)/\Ext w w':=by
 have TI:=ae (ip ok);obtain⟨r1,r2,r3,r4,r5,r6⟩:=cQ h ok;subst r3;have y9:=(Ext.alloc w (bj a nb ca b nb cb c nc cc)).trans (Ext.alloc _ (.cells #[.int .i64 0,.slice none 0 0,.slice none 0 0,.slice none 0 0,.int .i64 0,.int .i64 0,.int .i64 0] 72));obtain⟨W,hW⟩:=b9 ((w.alloc (bj a nb ca b nb cb c nc cc)).alloc (.cells #[.int .i64 0,.slice none 0 0,.slice none 0 0,.slice none 0 0,.int .i64 0,.int .i64 0,.int .i64 0] 72));rw[<-hW]at y9;have y7:=ae y9;have H:=ae (h.ext y9);have A5:=ae ok;have Af:=ae (show W.heap[w.heap.size+1]?=some (.cells #[.int .i64 0,.slice none 0 0,.slice none 0 0,.slice none 0 0,.int .i64 0,.int .i64 0,.int .i64 0] 72 (0,0))by rw[hW];exact ai _ _ _ e8);have zf:=ae (show W.heap[w.heap.size]?=some (.cells #[.slice a nb ca,.slice b nb cb,.slice c nc cc] 68 (0,0))by rw[hW,aO _ _ _ e8];exact ai _ _ _ rfl);have CR:=ae (show W.heap.size=w.heap.size+1+1 by rw[hW];simp);have Mq:=h.a.l8;have Mp:=h.a.l9;have AS:=h.b.l8;have AD:=h.b.l9;have Ba:=h.c.l8;have CY:=h.c.l9;have CG:=ae h.a.hlen;have AO:=ae h.b.hlen;have BE:=ae h.c.hlen;clear h y9 ok r4 r5 r6;have AT:=ae (fun(w':World) (hx:Ext W w')=>pK (H.o.ext hx) A5.o);go_enter Tryz.func129,Tryz.ntmps129
 go_upto_region 1 with fail;rw[<-hW];clear hW;have p1:=aD zf.o;have p2:=aG zf.o;have k7:Ext W W.drew:=Ext.drew W;have k7:Ext W W.drew:=Ext.drew W;have zw:=k7;have k8:=ae (fun(w':World) (h:Ext W w')=>(⟨h.j9 p1,h.j9 p2,h⟩:w'.cell? ⟨w.heap.size,1,none⟩=some (.slice b nb cb)/\w'.cell? ⟨w.heap.size,2,none⟩=some (.slice c nc cc)/\Ext W w'))
 go_region_held3 (fun w'=>w'.cell? ⟨w.heap.size,1,none⟩=some (.slice b nb cb)/\w'.cell? ⟨w.heap.size,2,none⟩=some (.slice c nc cc)/\Ext W w')
  (with_reducible exact k8.o _ k7)
  (first
    | fail)
 clear k8 zw;have X1:=ae k7;clear k7 p1 p2;have p0:=am (X1.o.blk zf.o);have p1:=aD (X1.o.blk zf.o);have p2:=aG (X1.o.blk zf.o);go_wp2_with fail;refine(AT.o _ X1.o).mono ?_;rintro e w1 ⟨⟨va,vb,vs,rfl,ho⟩,hx⟩;obtain⟨a7,n7,c7,rfl,H9⟩:=ho.a.var;obtain⟨a8,n8,c8,rfl,IL⟩:=ho.b.var;obtain⟨E,hE⟩:=b9 (w1.alloc (.cells #[.slice a7 n7 c7,.slice a8 n8 c8,.int .i64 (nc:Int),.int .i64 0,.bool false] 182));have B0:Ext w1 E:=by rw[hE];exact Ext.alloc _ _
 have To:=ae (X1.o.trans hx);have XE:=ae B0
 have HS:=ae (show dK E w1.heap.size a7 n7 c7 a8 n8 c8 vs (bV A B nc) 0 false from
  ⟨by rw[hE];exact ai _ _ _ rfl,(ho.ext B0).mono (KJ _)⟩)
 have Ly:=gh nc e7
 have HZ:=ae (show o4 (E.alloc (.cells (be (List.replicate nc 0)) 3)) 0 (.slice (some ⟨E.heap.size,0,none⟩) nc nc) (List.replicate nc 0)from
  (show Row (E.alloc (.cells (be (List.replicate nc 0)) 3)) E.heap.size 3 (List.replicate nc 0)from L' _ _).own (KJ _) e8 e7)
 obtain⟨F,hF⟩:=b9 (E.alloc (.cells (be (List.replicate nc 0)) 3));have XF:=ae (show Ext E F by rw[hF];exact Ext.alloc _ _);rw[<-hF]at HZ;clear ho hx B0 p0 p1 p2;go_upto_region 3 with fail;rw[<-hE];clear hE;go_upto_region 4 with fail;rw[<-hF];clear hF Ly
 have HZR:=ae (show en (List.replicate nc 0)=List.replicate nc ((0:Int),(1:Int))by
  rw[fZ (by intro x hx;rw[List.mem_replicate]at hx;omega)];simp[az])
 have ZY:=ae (ja HZ.o.ints e7);rw[HZR.o]at ZY;go_wp2_with fail;refine ZY.o.mono ?_;rintro e w3 ⟨⟨v3,rfl,Av⟩,hx⟩;obtain⟨a3,n3,c3,rfl,Ia⟩:=Av.var;have Ff:n3<=70:=by have:=Ia.o;rw[O5]at this;omega
 have X3:=ae (XF.o.trans hx);have HZ3:=ae (HZ.o.ext hx);have Ea:=ae (qw Av.zj 1 nb e7 e7);clear Av hx Ia;go_wp2_with fail;refine Ea.o.mono ?_;rintro e w4 ⟨⟨v4,rfl,C5⟩,hx⟩;obtain⟨a4,n4,c4,rfl,HN4⟩:=C5.var;have X4:=ae (X3.o.trans hx);have HZ4:=ae (HZ3.o.ext hx);have LU:=ae (HS.o.ext X4.o);have Gr:=ae (SN LU.o (show Ak nc nb _ (bV A B nc)by have h1:=TI.o;rw[BE.o,CG.o]at h1;exact h1) e7 e7 e7 C5);have Mb:=ae (show List.replicate nc ((0:Int),(1:Int))++List.replicate nb (1,1)=ee C.length B.length by unfold ee;rw[BE.o,AO.o]);clear C5 hx HN4;go_wp2_with fail;refine Gr.o.mono ?_;rintro e w5 ⟨Fg,SH,TY,SG,Tm,Vo,Tl,QM,Ok⟩;obtain⟨o1,Ry⟩:=b9 (aY (ee C.length B.length) 1000 (bV A B C.length));have Oj:aY (List.replicate nc ((0:Int),(1:Int))++List.replicate nb (1,1)) (1000-0) (bV A B nc)=o1:=by rw[Ry,Mb.o,BE.o]
 rw[Oj]at Ok;have zv:=ae Ry;have HZ5:=ae (HZ4.o.mod Fg LU.o.box);have X5:=ae (show Ext w1 w5 from Fg.ext (XE.o.trans X4.o) (ao _));clear Oj Ry;cases o1 with
 | none =>
   obtain⟨v5,col5,t5,n5,rfl,EK⟩:=Ok;have Ei:=ae EK;clear EK Fg;obtain⟨c0,c1,c2,c3',c4',O⟩:=Ei.o.cells;have FE:=ae (show Bd A B C=none by unfold Bd;rw[<-zv.o];rfl);have Vr:=ae ((To.o).trans X5.o);obtain⟨l0,l1,l2,l3,l4,l5,l6,lf⟩:=zN (Vr.o.blk Af.o);go_wp2_with fail;refine bR (v:=.tuple #[CC (aV 0) none 0 0 none 0 0 none 0 0,.bool false]) (by simp[results,abd,go_sem,l0,l1,l2,l3,l4,l5,l6,lf,aV]) rfl ⟨?_,(y7.o.trans Vr.o).AP (Cj _) _ _ _ _ _ _ _⟩;rw[FE.o];exact⟨aV 0,none,0,0,none,0,0,none,0,0,rfl⟩
 | some q1 =>
   obtain⟨v5,rfl,Fe,EK⟩:=Ok;obtain⟨a5,n5,c5,rfl,CF⟩:=Fe.var;have Ei:=ae EK;have zW:=ae Fe;have hinv:=dR TI.o zv.o.symm;have Ts:=ae (show Ak nc nb _ q1.t by have h1:=hinv.1;rw[BE.o,CG.o]at h1;exact h1);have HQC:=ae (eu Ts.o hinv.2.1).1;have Ys:=hinv.2.2;clear EK Fe Fg hinv;obtain⟨u,hu⟩:=b9 (nc+nb);have HU:=ae hu;obtain rfl:n5=u+1:=by have h1:=CF.o;rw[HQC.o.1]at h1;omega
   have hu78:u<=78:=by omega
   have Hy:((u+1:Nat):Int)-1=(u:Int):=by omega
   obtain⟨zb,zL,lx,ly,Dp,Kr,AU,Fq⟩:=zW.o.zj.at (show u<u+1 by omega);subst Dp;have Yr:=zW.o.zj.l8;have Yq:=zW.o.zj.l9;have I9:=ae (show q1.costs[C.length+B.length]?.getD (0,0)=(lx,ly)by rw[BE.o,AO.o,<-HU.o];exact Kr);obtain⟨c0,c1,c2,c3',c4',O⟩:=Ei.o.cells;have Vr:=ae ((To.o).trans X5.o);clear Kr hu;by_cases Du:lx<0
   ·have Gs:=ae (show Bd A B C=(runT (fH B (1,1) q1.costs C.length) B.length).map fun Y=>⟨2,[],Y,[],(0,0),1000-q1.left⟩by
     unfold Bd;rw[<-zv.o];simp only[G3];rw[I9.o,hI Du])
    obtain⟨U,D5⟩:∃p:Int,p=((1000-q1.left:Nat):Int):=⟨_,rfl⟩;rw[<-D5]at c3';have Sh:=ae (show(1000:Int)-(q1.left:Int)=U by rw[D5];omega);clear D5;obtain⟨E9,hE9⟩:=b9 (w5.alloc (.cells #[.int .i64 2,.slice none 0 0,.slice none 0 0,.slice none 0 0,.int .i64 0,.int .i64 0,.int .i64 U] 72));have X9:=ae (show Ext w5 E9 by rw[hE9];exact Ext.alloc _ _)
    have I':=ae (show Mv E9 w5.heap.size w5.heap.size 2 (.slice none 0 0) (.slice none 0 0) (.slice none 0 0) 0 0 U []by
     rw[hE9];exact⟨ai _ _ _ rfl,ao _,o0.nil _ _⟩)
    go_upto_region 9 with fail;rw[<-hE9];clear hE9 c0 c1 c2 c3' c4' O AU Fq;go_wp2_with fail
    go_loopg [64] nb (fun gk ii wr=>∃(k:Nat) (vy:Value) (Y:j4),b7 (gk+k=nb)/\ii=.int .i64 (k:Int)/\b7 (runT (fH B (1,1) q1.costs C.length) k=some Y)/\b7 (Mv wr w5.heap.size w5.heap.size 2 (.slice none 0 0) vy (.slice none 0 0) 0 0 U Y)/\b7 (Ext w5 wr))
    case atStart=>exact⟨0,_,[],ae e7,rfl,ae rfl,I',X9⟩
    case round =>
     obtain⟨g1,o7⟩:=b9 gk;subst o7;obtain⟨o6,o5⟩:=b9 wr;subst o5;obtain⟨k,vy,Y,HK,rfl,HY,HL,HX⟩:=hrel;have Rs:=HX.o.size;have Ms:=ae (Vr.o.trans HX.o);by_cases hlt:k<nb
     ·obtain⟨z,hz⟩:=b9 (nc+k);have XG:z<u+1:=by have:=HU.o;omega
      obtain⟨zb',MF,ex,Z,F0,Mo,AV,Ed⟩:=(zW.o.ext HX.o).zj.at XG;simp only[bA,mq,zz]at F0;obtain⟨rfl,rfl⟩:=F0;obtain⟨d1,d2,Fz,hdd⟩:∃x y ok,zI (1,1) (ex,Z)=((x,y),ok):=⟨_,_,_,rfl⟩;have EH:=ae hdd;obtain⟨bb,Cp,hba,Cn⟩:=(H.o.ext Ms.o).b.at hlt;subst hba;obtain⟨bi,B3⟩:=b9 (B[k]?.getD 0);rw[<-B3]at Cn;have KP:=ae B3;have L9:=ae (show fH B (1,1) q1.costs C.length k=if Fz=true then some (BX bi (d1,d2)) else none from Pf B q1.costs (by rw[BE.o];exact hz) Mo hdd B3.symm);have p1:=aD (Ms.o.blk zf.o);have Qf:IntKind.i64.wrap ((nc:Int)+(k:Int))=(z:Int):=by rw[cn];omega
      have NT:(0:Int)<=(z:Int):=by omega
      have NS:(z:Int)<((u+1:Nat):Int):=by omega
      have hz2':(z:Int)<(u:Int)+1:=by omega
      clear Mo hdd B3 hz;go_upto_region 12 with fail;go_upto_region 12 with fail
      go_cut [12,13] (fun sx so wx=>∃g:Nat,sx=.pointer (some ⟨g,0,none⟩)/\so=.bool Fz/\b7 (ah o6 wx g d1 d2))
      case first =>
       have k7:Ext o6 o6.drew:=Ext.drew o6;have zw:Ext o6 (o6.alloc (.cells #[.int .i64 0,.int .i64 0] 62)).drew:=(Ext.alloc _ _).trans (Ext.drew _);have k8:=ae (fun(w':World) (h:Ext o6 w')=>(⟨h.j9 AV,h.j9 Ed,h⟩:w'.cell? ⟨zb,zL+z*2,none⟩=some (.int .i64 ex)/\w'.cell? ⟨zb,zL+z*2+1,none⟩=some (.int .i64 Z)/\Ext o6 w'))
       go_region_held3 (fun w'=>w'.cell? ⟨zb,zL+z*2,none⟩=some (.int .i64 ex)/\w'.cell? ⟨zb,zL+z*2+1,none⟩=some (.int .i64 Z)/\Ext o6 w')
        (first
          | with_reducible exact k8.o _ k7
          | with_reducible exact k8.o _ zw
          | with_reducible exact k8.o _ ((k7.setCell (by first|(simp;done)|(simp;omega)) _).setCell (by first|(simp;done)|(simp;omega)) _)
          | with_reducible exact k8.o _ (k7.trans (Ext.alloc _ _))
          | with_reducible exact k8.o _ (q8.put _ _).ext)
        (first
          | (go_at_call 71
             (with_reducible refine(cX 1 _).mono ?_)
             rintro e w7 ⟨rfl,zT⟩
             first|(with_reducible have q8:=ah.grow q8 zT)|(with_reducible have q8:=ah.zu zT)|(with_reducible have q8:=ah.zy k7 zT)|skip
             first|(have Dy:=q8.c0;have Dx:=q8.c1;have Ev:=q8.free)|skip
             have k7:Ext o6 w7:=by first|with_reducible exact k7.trans zT|with_reducible exact zw.trans zT|with_reducible exact(k7.trans (Ext.alloc _ _)).trans zT
             have A0:=k7.size)
          | (go_at_call 138
             (with_reducible refine(nl 1 1 ex Z _).mono ?_)
             rw[EH.o];rintro e w8 ⟨rfl,At⟩
             first|(with_reducible have q8:=ah.grow q8 At)|(with_reducible have q8:=ah.zu At)|(with_reducible have q8:=ah.zy k7 At)|skip
             first|(have Dy:=q8.c0;have Dx:=q8.c1;have Ev:=q8.free)|skip
             have k7:Ext o6 w8:=by first|with_reducible exact k7.trans At|with_reducible exact zw.trans At|with_reducible exact(k7.trans (Ext.alloc _ _)).trans At
             have A0:=k7.size)
          | fail)
       all_goals(go_wp2_with fail;go_meet;first|exact⟨_,rfl,rfl,ae (q8.put _ _)⟩|exact⟨_,rfl,rfl,ae (ah.new k7 _ _)⟩|exact⟨_,rfl,rfl,ae (ah.new' k7 _ _ e8)⟩)
      obtain⟨g,rfl,rfl,Q⟩:=hcut;have Le:=ae (Ms.o.trans Q.o.ext);clear Qf NT NS hz2' AV Ed p1 Cn;cases Fz
      ·have FE:=ae (show runT (fH B (1,1) q1.costs C.length) B.length=none from im HY.o (by rw[L9.o];rfl) (by rw[AO.o];exact hlt));obtain⟨l0,l1,l2,l3,l4,l5,l6,lf⟩:=zN (Le.o.blk Af.o);go_wp2_with fail;refine bR (v:=.tuple #[CC (aV 0) none 0 0 none 0 0 none 0 0,.bool false]) (by simp[results,abd,go_sem,l0,l1,l2,l3,l4,l5,l6,lf,aV]) rfl ⟨?_,(y7.o.trans Le.o).AP (Cj _) _ _ _ _ _ _ _⟩;rw[Gs.o,FE.o];exact⟨aV 0,none,0,0,none,0,0,none,0,0,rfl⟩
      ·have p1:=aD (Le.o.blk zf.o);obtain⟨bb',ZA,OQ,Cn⟩:=(H.o.ext Le.o).b.at hlt;simp only[bA,mq,zz]at OQ;obtain⟨rfl,rfl⟩:=OQ;rw[<-KP.o]at Cn;have HL2:=ae (HL.o.ext Q.o.ext);have zt:=ae (HX.o.trans Q.o.ext);have ZJ:=ae (eE (x:=BX bi (d1,d2)) HY.o (by rw[L9.o];rfl));obtain⟨e1,DQ⟩:∃e1,BX bi (d1,d2)=(e1,d2):=by unfold BX ze;split<;>exact⟨_,rfl⟩
       have Eh:=ae DQ;have UR:=aQ (p:=(d1,d2)) (by have h1:=(lZ (a:=(1,1)) (b:=(ex,Z)) (by rw[EH.o])).2.2.1;rw[EH.o]at h1;exact h1);have FP:-9223372036854775807<=d1:=by have:=UR.2.2.1;simp only at this;omega
       have Ir:d1<=9223372036854775807:=by have:=UR.2.2.2;simp only at this;omega
       clear DQ UR
       go_upto_if 86 with fail
       go_cut [6] (fun s6 wx=>s6=.pointer (some ⟨w1.heap.size,0,none⟩)/\b7 (ah o6 wx g e1 d2))
       case first =>
        have g0:=Q.o.c0;have g1':=Q.o.c1;have gf:=Q.o.free;by_cases Hc:bi<0
        ·have Ed:e1=-d1:=by have:=Eh.o;unfold BX ze at this;rw[hI Hc]at this;exact(Jr Prod.fst this).symm
         subst Ed;rw[show decide (bi<0)=true from z' Hc];go_wp2_with fail;refine(eo d1 d2 _ FP Ir).mono ?_;rintro e w9 ⟨rfl,hx⟩;have Ck:=ae (Q.o.grow hx);clear hx g0 g1' gf;have g0:=Ck.o.c0;have g1':=Ck.o.c1;have gf:=Ck.o.free;go_wp2_with fail;go_meet;exact⟨rfl,ae (Ck.o.put _ _)⟩
        ·have Ed:e1=d1:=by have:=Eh.o;unfold BX at this;rw[hD e7]at this;exact(Jr Prod.fst this).symm
         subst Ed;rw[show decide (bi<0)=false from u' e7];go_wp2_with fail;go_meet;exact⟨rfl,Q⟩
       obtain⟨rfl,A6⟩:=hcut;have EG:=ae (HL.o.ext A6.o.ext);have zk:=ae (HX.o.trans A6.o.ext);have g0:=A6.o.c0;have g1':=A6.o.c1;have y2:=(zN EG.o.box).2.2.1;have I1:=A6.o.lt;have hlb:=mr EG.o.box;have F6:=zk.o.size;have Hi:=ae (dO HY.o);clear p1 Cn
       go_wp2_with (first
        | (at_builtin;refine aM rfl _ _ rfl w5.heap.size vy _ rfl (EG.o.y.ext (Ext.alloc _ _)) _ 1 _ [(e1,d2)] rfl (Rats.one' _ _ _ _ _ e8) (by rw[Hi.o];omega) (by simp;omega) ?_;intro v9 w9 ho hg k9;obtain⟨a9,n9,q9,rfl,PS⟩:=ho.var;have FR:=ae ho;have PY:=ae hg;have BH:=EG.o.Vn (Ext.alloc _ _) hg;have c09:=(zN BH).2.2.1;have WO:=(zN BH).2.2.2.2.2.2.2;have U5:Ext w5 w9:=ak (Ext.trans zk.o (Ext.alloc _ _)) hg (fun j hj=>(EG.o.y.lt j hj).1);clear ho hg k9 BH))
       have Xe:=ae (EG.o.SI (Ext.alloc _ _) PY.o FR.o);have IB:=ae (U5.setCell (p:=⟨w5.heap.size,2,none⟩) (ao _) (.slice a9 n9 q9))
       go_roundg (g1-1)
       case measure=>have:=HK.o;omega
       case rel=>exact⟨k+1,_,_,ae (j1 HK.o),by go_num,ZJ,ae (by rw[Eh.o];exact Xe.o),IB⟩
     ·have zQ:nb=k:=by have:=HK.o;omega
      subst zQ;obtain⟨ay,ny,cy,rfl,HNY⟩:=HL.o.y.var;obtain⟨m0,m1,m2,m3,m4,m5,m6,mf⟩:=zN HL.o.box;obtain⟨l0,l1,l2,l3,l4,l5,l6,lf⟩:=zN (Ms.o.blk Af.o);have Hm:=ae (show Bd A B C=some ⟨2,[],Y,[],(0,0),U⟩by rw[Gs.o,AO.o,HY.o,Tc,Sh.o]);have F8:=mr HL.o.box;go_wp2_with fail;refine bR (v:=.tuple #[CC ⟨2,[],Y,[],(0,0),U⟩ none 0 0 ay ny cy none 0 0,.bool true]) (by simp[results,abd,go_sem,l0,l1,l2,l3,l4,l5,l6,lf]) rfl ⟨?_,(y7.o.trans Ms.o).AP (Cj _) _ _ _ _ _ _ _⟩;rw[Hm.o];refine⟨none,0,0,ay,ny,cy,none,0,0,rfl,?_,?_,?_⟩
      ·exact fun W _=>Rats.FW W
      ·exact(HL.o.y.keep fun i hi=>bU _ (by have:=(HL.o.y.lt i hi).1;have:=Vr.o.size;have:=CR.o;omega) _ _ _ _ _ _ _).Dm (by have:=y7.o.size;have:=To.o.size;have:=X5.o.size;omega)
      ·exact fun W _=>Rats.FW W
   ·have Gs:=ae (show Bd A B C=(bv C.length (q1.t,q1.left) B.length).bind fun s=>(aY (cz C B.length) s.2 s.1).map fun p2 =>
     if 0<=p2.zp then⟨3,(A7 p2.t).take C.length,[],AY p2.t C.length p2.zp.toNat B.length,(0,0),1000-p2.left⟩
     else⟨1,(A7 p2.t).take C.length,(List.range B.length).map (dY B p2.costs C.length),[],ze (p2.costs[C.length+B.length]?.getD (0,0)),1000-p2.left⟩by
     unfold Bd;rw[<-zv.o];simp only[G3];rw[I9.o,hD e7])
    have J5:=ae (show dK w5 w1.heap.size _ _ _ _ _ _ QM q1.t (1000-q1.left) false from Ei.o);have HD0:=ae (show bv nc (q1.t,q1.left) 0=some (q1.t,q1.left)from rfl);have UE:=mr J5.o.box;have W7:=ae Ys;go_upto_region 20 with fail;clear c0 c1 c2 c3' c4' O AU Fq Yr Yq Ys;go_wp2_with fail
    go_loopg [98] nb (fun gk ii wr=>∃(k:Nat) (tt:Tb) (lf:Nat) (ra:j6) (rn rc:Nat) (ba:j6) (bn bc:Nat) (vs:List Value),b7 (gk+k=nb)/\ii=.int .i64 (k:Int)/\b7 (bv nc (q1.t,q1.left) k=some (tt,lf))/\b7 (dK wr w1.heap.size ra rn rc ba bn bc vs tt (1000-lf) false)/\b7 (Mod w1.heap.size w5 wr))
    case atStart=>exact⟨0,_,_,_,_,_,_,_,_,_,ae e7,rfl,HD0,J5,ae (Mod.refl _ _)⟩
    case round =>
     obtain⟨g1,o7⟩:=b9 gk;subst o7;obtain⟨o6,o5⟩:=b9 wr;subst o5;obtain⟨k,tt,lf,ra,rn,rc,ba,bn,bc,vs,HK,rfl,HD,Gp,HM⟩:=hrel;have S8:=fG (s:=(q1.t,q1.left)) Ts.o HD.o;have HT:=ae (show Ak nc nb _ tt from S8.1);have YJ:lf<=1000:=by have h1:=S8.2;have h2:=W7.o;simp only at h1;omega
     have YM:=mr Gp.o.box;have DF:=HM.o.size;obtain⟨c0,c1,c2,c3,c4,O⟩:=Gp.o.cells;have CP:rn=nb:=by have h1:=Gp.o.tb.CW.rows.hlen;have h2:=HT.o.len;omega
     have Hc:bn=nb:=by have h1:=Gp.o.tb.CW.basis.hlen;have h2:=HT.o.De;omega
     subst CP;subst Hc;clear S8;by_cases hlt:k<bn
     ·obtain⟨eb,zl,DT,AV⟩:=Gp.o.tb.CW.basis.at hlt;subst DT;obtain⟨b,hb⟩:=b9 (tt.basis[k]?.getD 0);rw[<-hb]at AV;have HB:=ae hb;clear hb;by_cases LD:b<(nc:Int)
      ·have HD1:=ae (ov HD.o (by rw[<-HB.o];exact LD));go_wp2_with fail
       go_roundg (g1-1)
       case measure=>have:=HK.o;omega
       case rel=>exact⟨k+1,tt,lf,_,_,_,_,_,_,_,ae (j1 HK.o),by go_num,HD1,Gp,HM⟩
      ·have IK:=ae (show¬tt.basis[k]?.getD 0<nc by rw[<-HB.o];exact LD);have CA:=ae (Gp.o.tb.CW.rows.at hlt);have Wp:=HT.o.row k hlt;have Br:=ae Wp.1;have QA:=ae HT.o.bounds;clear Wp
       go_upto_block 4 with fail
       go_cut [] (fun wx=>Left w1.heap.size o6 wx ((bv nc (q1.t,q1.left) (k+1)).map fun x=>(x.1,1000-x.2)))
       case first =>
        go_wp2_with fail
        go_loopg [112] nc (fun gk jj wr=>∃j:Nat,b7 (gk+j=nc)/\jj=.int .i64 (j:Int)/\b7 (((tt.row k).take j).all (fun c=>!CM c)=true)/\b7 (Ext o6 wr))
        case atStart=>exact⟨0,ae e7,rfl,ae rfl,ae (Ext.refl _)⟩
        case round =>
         obtain⟨g2,Am⟩:=b9 gk;subst Am;obtain⟨I,zx⟩:=b9 wr;subst zx;obtain⟨j,HJ,rfl,HA,zt⟩:=hrel;clear c0 c1 c2 c3 c4 O AV;have B6:=ae (Gp.o.ext zt.o);obtain⟨c0,c1,c2,c3,c4,O⟩:=B6.o.cells;by_cases Ca:j<nc
         ·obtain⟨MH,Dk,ya,yn,yc,Kg,AU,o8⟩:=B6.o.tb.CW.rows.at hlt;subst Kg;have Em:yn=nc+bn+1:=by rw[<-o8.hlen];exact Br.o
          have An:=o8.l8;have EU:=o8.l9;obtain⟨yb,zE,p,q,ET,zR,Jm,Jl⟩:=o8.at (show j<yn by omega);subst ET;have Wx:(j:Int)<(yn:Int):=by omega
          have Ay:=ae (show(tt.row k)[j]?.getD (0,0)=(p,q)from zR);have HROW2:=ae o8;clear zR o8 Em;go_upto_region 27 with fail
          go_cut [127] (fun s127 wx=>s127=.bool (CM (p,q))/\b7 (Ext I wx))
          case first =>
           cases h1:(p == 0)
           all_goals
            cases h2:(q == 1)
           all_goals
            have TB:=ae (Q3 p q);rw[h1,h2]at TB;have k7:Ext I I.drew:=Ext.drew I;have zw:=k7;have k8:=ae (fun(w':World) (h:Ext I w')=>(⟨h.j9 c0,h.j9 AU,h.j9 Jm,h.j9 Jl,h⟩:w'.cell? ⟨w1.heap.size,0,none⟩=some (.slice (some ⟨MH,Dk,none⟩) bn rc)/\w'.cell? ⟨MH,Dk+k,none⟩=some (.slice (some ⟨yb,zE,none⟩) yn yc)/\w'.cell? ⟨yb,zE+j*2,none⟩=some (.int .i64 p)/\w'.cell? ⟨yb,zE+j*2+1,none⟩=some (.int .i64 q)/\Ext I w'))
            go_region_held3 (fun w'=>w'.cell? ⟨w1.heap.size,0,none⟩=some (.slice (some ⟨MH,Dk,none⟩) bn rc)/\w'.cell? ⟨MH,Dk+k,none⟩=some (.slice (some ⟨yb,zE,none⟩) yn yc)/\w'.cell? ⟨yb,zE+j*2,none⟩=some (.int .i64 p)/\w'.cell? ⟨yb,zE+j*2+1,none⟩=some (.int .i64 q)/\Ext I w')
             (with_reducible exact k8.o _ k7)
             (first
               | (go_at_call 71
                  (with_reducible refine(cX 0 _).mono ?_)
                  rintro e w7 ⟨rfl,zT⟩;have k7:Ext I w7:=k7.trans zT
                  have SX:=k7.size)
               | fail)
            clear k8 zw;go_wp2_with fail;go_meet;exact⟨by rw[TB.o];rfl,ae k7⟩
          obtain⟨rfl,E7⟩:=hcut;have zk:=ae (zt.o.trans E7.o);have Cz:=ae (B6.o.ext E7.o);clear c0 c1 c2 c3 c4 O AU Jm Jl;cases hoff:CM (p,q)
          ·have HA2:=ae (qJ (by rw[Br.o];omega) Ay.o HA.o hoff);clear hoff;go_wp2_with fail
           go_roundg (g2-1)
           case measure=>have:=HJ.o;omega
           case rel=>exact⟨j+1,ae (j1 HJ.o),by go_num,HA2,zk⟩
          ·have Fa:=ae (ot HD.o (j1 IK.o) Ca (by rw[Br.o];omega) HA.o (by rw[Ay.o];exact hoff) YJ);have FD:=ae (uZ Cz.o HT.o e7 e7 e7 (k:Int) (j:Int));clear hoff;go_wp2_with fail;refine FD.o.mono ?_;rintro e w6 ⟨rfl,hl6⟩;have IM:=ae (Left.more zk.o hl6);clear hl6;go_wp2_with fail;go_meet;rw[Fa.o];exact IM.o
         ·have Eo:nc=j:=by have:=HJ.o;omega
          have Fa:=ae (ou HD.o (j1 IK.o) (by rw[Eo];exact HA.o));clear Eo;go_wp2_with fail;go_meet;rw[Fa.o];exact⟨Mod.of zt.o,_,_,_,_,_,_,_,B6.o⟩
       obtain⟨UB,Kd,Kc,rc',ba',KA,bc',vs',z8⟩:=hcut;have HMC:=ae (HM.o.trans UB);clear UB c0 c1 c2 c3 c4 O AV;cases hd:bv nc (q1.t,q1.left) (k+1)with
       | none =>
         rw[hd]at z8;obtain⟨t',n',Ru⟩:=z8;have HSF:=ae Ru;have FE:=ae (show Bd A B C=none by rw[Gs.o,BE.o,AO.o,kT hd e7];rfl);clear Ru hd;obtain⟨c0,c1,c2,c3,c4,O⟩:=HSF.o.cells;have Ms:=ae (HMC.o.ext Vr.o (j1 To.o.size));obtain⟨l0,l1,l2,l3,l4,l5,l6,T5⟩:=zN (Ms.o.blk Af.o);go_wp2_with fail;refine bR (v:=.tuple #[CC (aV 0) none 0 0 none 0 0 none 0 0,.bool false]) (by simp[results,abd,go_sem,l0,l1,l2,l3,l4,l5,l6,T5,aV]) rfl ⟨?_,(y7.o.trans Ms.o).AP (Cj _) _ _ _ _ _ _ _⟩;rw[FE.o];exact⟨aV 0,none,0,0,none,0,0,none,0,0,rfl⟩
       | some st =>
         obtain⟨t',f'⟩:=st;rw[hd]at z8;have HD':=ae hd;have HSF:=ae (show dK wc w1.heap.size Kd Kc rc' ba' KA bc' vs' t' (1000-f') false from z8);clear z8 hd;obtain⟨c0,c1,c2,c3,c4,O⟩:=HSF.o.cells;go_wp2_with fail
         go_roundg (g1-1)
         case measure=>have:=HK.o;omega
         case rel=>exact⟨k+1,t',f',_,_,_,_,_,_,_,ae (j1 HK.o),by go_num,HD',HSF,HMC⟩
     ·have zQ:bn=k:=by have:=HK.o;omega
      subst zQ;have Ms:=ae (HM.o.ext Vr.o (j1 To.o.size));have HZR1:=ae (HZ5.o.mod HM.o J5.o.box);have p2:=aG (Ms.o.blk zf.o);have V8:=ae (qw (H.o.ext Ms.o).c 0 bn e7 e7);clear c0 c1 c2 c3 c4 O;go_wp2_with fail;refine V8.o.mono ?_;rintro e w6 ⟨⟨v6,rfl,Oo⟩,hx⟩;obtain⟨a6,n6,c6,rfl,H'⟩:=Oo.var;have VJ:=ae (Gp.o.ext hx);have X6:=ae (Ms.o.trans hx);have HZ6:=ae (HZR1.o.ext hx);have PH:=ae (SN VJ.o HT.o e7 e7 e7 Oo);have ME:=ae (show C++List.replicate bn ((0:Int),(1:Int))=cz C B.length by unfold cz;rw[AO.o]);clear Oo hx H' p2;go_wp2_with fail;refine PH.o.mono ?_;rintro e w7 ⟨Wu,ra7,rn7,rc7,ba7,bn7,bc7,vs7,hp7⟩;obtain⟨o2,D7⟩:=b9 (aY (cz C B.length) lf tt);have Oj:aY (C++List.replicate bn ((0:Int),(1:Int))) (1000-(1000-lf)) tt=o2:=by rw[D7,ME.o,show 1000-(1000-lf)=lf by omega]
      rw[Oj]at hp7;have As:=ae D7;have HZ7:=ae (HZ6.o.mod Wu VJ.o.box);have X7:=ae (show Ext W w7 from Wu.ext X6.o (j1 To.o.size));clear Oj D7 Wu;cases o2 with
      | none =>
        obtain⟨v7,col7,t7,n7',rfl,KY⟩:=hp7;have I6:=ae KY;clear KY;obtain⟨c0,c1,c2,c3,c4,O⟩:=I6.o.cells;have FE:=ae (show Bd A B C=none by rw[Gs.o,BE.o,AO.o,HD.o,G3];simp only;rw[show cz C bn=cz C B.length by rw[AO.o],<-As.o];rfl);obtain⟨l0,l1,l2,l3,l4,l5,l6,T5⟩:=zN (X7.o.blk Af.o);go_wp2_with fail;refine bR (v:=.tuple #[CC (aV 0) none 0 0 none 0 0 none 0 0,.bool false]) (by simp[results,abd,go_sem,l0,l1,l2,l3,l4,l5,l6,T5,aV]) rfl ⟨?_,(y7.o.trans X7.o).AP (Cj _) _ _ _ _ _ _ _⟩;rw[FE.o];exact⟨aV 0,none,0,0,none,0,0,none,0,0,rfl⟩
      | some q2 =>
        obtain⟨v7,rfl,Lw,KY⟩:=hp7;obtain⟨a10,n10,c10,rfl,VV⟩:=Lw.var;have I6:=ae KY;have IJ:=ae Lw;have hinv:=dR HT.o As.o.symm;have Ce:=ae hinv.1;have LV:=ae (eu Ce.o hinv.2.1).1;have VM:=ae hinv.2.2;have Es:=qP HT.o As.o.symm
        have Hm:=ae (show Bd A B C=some (if 0<=q2.zp then⟨3,(A7 q2.t).take nc,[],AY q2.t nc q2.zp.toNat bn,(0,0),1000-q2.left⟩
         else⟨1,(A7 q2.t).take nc,(List.range bn).map (dY B q2.costs nc),[],ze (q2.costs[nc+bn]?.getD (0,0)),1000-q2.left⟩)by
         rw[Gs.o,BE.o,AO.o,HD.o,G3];simp only;rw[show cz C bn=cz C B.length by rw[AO.o],<-As.o];rfl)
        have hb7:bn=bn7:=by have h1:=KY.tb.CW.basis.hlen;have h2:=Ce.o.De;omega
        have hr7:bn=rn7:=by have h1:=KY.tb.CW.rows.hlen;have h2:=Ce.o.len;omega
        subst hb7;subst hr7;clear KY Lw hinv;have YD:n10=u+1:=by have h1:=VV.o;rw[LV.o.1]at h1;have:=HU.o;omega
        have ED:=ae YD;have hr10a:=IJ.o.zj.l8;have hr10b:=IJ.o.zj.l9;clear YD;obtain⟨c0,c1,c2,c3,c4,O⟩:=I6.o.cells;obtain⟨U,D5⟩:∃p:Int,p=((1000-q2.left:Nat):Int):=⟨_,rfl⟩;have Sh:=ae (show(1000:Int)-(q2.left:Int)=U by have:=VM.o;rw[D5];omega);have Z5:=ae D5.symm;clear D5;have VI:=ae (sD I6.o.tb.CW e7 (Ce.o.ok e7));have JZ:(A7 q2.t).length=nc+bn:=by
         unfold A7;rw[hI (Ce.o.ok e7),ji,Ce.o.r7,Ce.o.len];simp
        have CS:=ae JZ;clear JZ;obtain⟨qc,Wq⟩:=b9 q2.zp;rw[<-Wq]at Es Hm⊢;clear Wq;go_wp2_with fail;refine VI.o.mono ?_;rintro e w8 ⟨⟨v8,rfl,DG⟩,hx⟩;obtain⟨ax,nx,cx,rfl,PQ⟩:=DG.var;have hnx:nx=nc+bn:=by have h1:=PQ.o;rw[CS.o]at h1;omega
        have PB:=ae hx;have Sj:=ae DG;have LS:=ae (I6.o.ext hx);have HZ8:=ae (HZ7.o.ext hx);have X8:=ae (X7.o.trans hx);have Gc:=DG.zj.l8;have hcx2:=DG.zj.l9;have hcx3:(nc:Int)<=(cx:Int):=by omega
        clear DG hx hnx Gc c0 c1 c2 c3 c4 O;have hs8:=X8.o.size
        rcases Es with hc|⟨J,hc,YQ⟩
        ·subst hc
         have J6:=ae (show Bd A B C=some ⟨1,(A7 q2.t).take nc,(List.range bn).map (dY B q2.costs nc),[],ze (q2.costs[nc+bn]?.getD (0,0)),U⟩by
          rw[Hm.o,hD e7,Sh.o])
         have Qe:IntKind.i64.wrap ((n10:Int)-1)=(u:Int):=by have:=ED.o;rw[cn];omega
         have HC8:=ae (IJ.o.ext PB.o);obtain⟨yb,zE,vx,vy,ET,Kr,BG,An⟩:=HC8.o.zj.at (show u<n10 by have:=ED.o;omega);subst ET;have A4:=LV.o.2 u (j1 HU.o);rw[Kr]at A4;have A4:=aQ A4;have Rl:-9223372036854775807<=vx:=by have:=A4.2.2.1;simp only at this;omega
         have Rk:vx<=9223372036854775807:=by have:=A4.2.2.2;simp only at this;omega
         have BV:=ae (show ze (q2.costs[nc+bn]?.getD (0,0))=(-vx,vy)by rw[<-HU.o,Kr];rfl);obtain⟨c0,c1,c2,c3,c4,O⟩:=LS.o.cells;rw[Z5.o]at c3;have GY:(u:Int)<(n10:Int):=by have:=ED.o;omega
         have Mk:(0:Int)<=(u:Int):=by omega
         clear Kr A4;go_upto_region 47 with fail
         go_cut [21] (fun sx wx=>∃g:Nat,sx=.pointer (some ⟨g,0,none⟩)/\b7 (Ef w8 wx g 1 (.slice ax nc cx) (.slice none 0 0) (.slice none 0 0) (-vx) vy U))
         case first =>
          have k7:Ext w8 w8.drew:=Ext.drew w8;have k8:=ae (fun(w':World) (h:Ext w8 w')=>(⟨h.j9 BG,h.j9 An,h.j9 c3,h⟩:w'.cell? ⟨yb,zE+u*2,none⟩=some (.int .i64 vx)/\w'.cell? ⟨yb,zE+u*2+1,none⟩=some (.int .i64 vy)/\w'.cell? ⟨w1.heap.size,3,none⟩=some (.int .i64 U)/\Ext w8 w'));refine rN (S:=(fun w'=>w'.cell? ⟨yb,zE+u*2,none⟩=some (.int .i64 vx)/\w'.cell? ⟨yb,zE+u*2+1,none⟩=some (.int .i64 vy)/\w'.cell? ⟨w1.heap.size,3,none⟩=some (.int .i64 U)/\Ext w8 w')) e9 ?_ (fun l7=>?_)
          ·exact k8.o _ k7
          refine tk 0 ?_;refine tk 1 ?_;refine tk 2 ?_;refine tk 3 ?_;refine tk 4 ?_;refine tk 5 ?_;refine tk 6 ?_;refine tk 8 ?_;refine tk 9 ?_;refine tk 10 ?_;refine tk 11 ?_;refine adl (rs:=[7,13]) e9 e8 ?_;refine abl (o:=?_) ?_ (fun K hK=>?_) ?_;rotate_left
          ·simp only[gA,gB,gC];rfl
          ·
           go_simp
           (go_at_call 74;refine(eo vx vy _ Rl Rk).mono ?_;rintro e w9 ⟨rfl,Jn⟩;have k7:=k7.trans Jn)
           go_wp2_with fail;refine hK.out _ _ ?_ (fun l7=>?_)
           ·exact k8.o _ k7
           clear hK K
           try simp only[Act.put,sA,sB,sC]
           refine tk 12 ?_;have Ee:=Ef.new k7;refine rd (i:=13) (h:=fun K hK=>?_);go_simp;refine hK.out _ _ ?_ (fun l7=>?_)
           ·exact k8.o _ Ee.ext
           clear hK K
           try simp only[Act.put,sA,sB,sC]
           obtain⟨gz,Hz⟩:=b9 w9.heap.size;rw[<-Hz]at Ee;rw[<-Hz];obtain⟨WZ,U7⟩:=b9 (w9.alloc Qc);rw[<-U7]at Ee l7;rw[<-U7];clear U7 Hz;have Dy:=Ee.c0;have Dx:=Ee.c1;have ZD:=Ee.c2;have b3_:=Ee.c3;have b4_:=Ee.c4;have b5_:=Ee.c5;have b6_:=Ee.c6;have ZB:=Ee.free;refine rd (i:=14) (h:=fun K hK=>?_);go_simp;refine hK.out _ _ ?_ (fun l7=>?_)
           ·exact k8.o _ (Ee.put _ _ _ _ _ _ _).ext
           clear hK K
           try simp only[Act.put,sA,sB,sC]
           refine Gh e9 ?_ _;go_wp2_with fail;go_meet;exact⟨_,rfl,ae (Ee.put _ _ _ _ _ _ _)⟩
          refine abl (o:=?_) ?_ (fun K hK=>?_) ac6;rotate_left
          ·simp only[gA,gB,gC];rfl
          have Ee:=Ef.zu (Ext.refl (w8.alloc Qc).drew);go_simp;refine hK.out _ _ ?_ (fun l7=>?_)
          ·exact k8.o _ Ee.ext
          clear hK K
          try simp only[Act.put,sA,sB,sC]
          obtain⟨gz,Hz⟩:=b9 w8.heap.size;rw[<-Hz]at Ee;rw[<-Hz];obtain⟨WZ,U7⟩:=b9 ((w8.alloc Qc).drew);rw[<-U7]at Ee l7;rw[<-U7];clear U7 Hz;refine rd (i:=7) (h:=fun K hK=>?_);go_simp
          (go_at_call 74;refine(eo vx vy _ Rl Rk).mono ?_;rintro e w9 ⟨rfl,Jn⟩;have Ee:=Ee.grow Jn;have k7:=Ee.ext)
          go_wp2_with fail;refine hK.out _ _ ?_ (fun l7=>?_)
          ·exact k8.o _ k7
          clear hK K
          try simp only[Act.put,sA,sB,sC]
          have Dy:=Ee.c0;have Dx:=Ee.c1;have ZD:=Ee.c2;have b3_:=Ee.c3;have b4_:=Ee.c4;have b5_:=Ee.c5;have b6_:=Ee.c6;have ZB:=Ee.free;refine tk 12 ?_;refine rd (i:=14) (h:=fun K hK=>?_);go_simp;refine hK.out _ _ ?_ (fun l7=>?_)
          ·exact k8.o _ (Ee.put _ _ _ _ _ _ _).ext
          clear hK K
          try simp only[Act.put,sA,sB,sC]
          refine Gh e9 ?_ _;go_wp2_with fail;go_meet;exact⟨_,rfl,ae (Ee.put _ _ _ _ _ _ _)⟩
         obtain⟨g,rfl,AO⟩:=hcut;have I':=ae (show Mv wc w8.heap.size g 1 (.slice ax nc cx) (.slice none 0 0) (.slice none 0 0) (-vx) vy U ((List.range 0).map (dY B q2.costs nc))from⟨AO.o.box,AO.o.hg,o0.nil _ _⟩);have E7:=ae AO.o.ext;clear AO c0 c1 c2 c3 c4 O BG An Qe;go_wp2_with fail
         go_loopg [219] bn (fun gk ii wr=>∃(k:Nat) (vY:Value),b7 (gk+k=bn)/\ii=.int .i64 (k:Int)/\b7 (Mv wr w8.heap.size g 1 (.slice ax nc cx) vY (.slice none 0 0) (-vx) vy U ((List.range k).map (dY B q2.costs nc)))/\b7 (Ext w8 wr))
         case atStart=>exact⟨0,_,ae e7,rfl,I',E7⟩
         case round =>
          obtain⟨g2,Am⟩:=b9 gk;subst Am;obtain⟨I,zx⟩:=b9 wr;subst zx;obtain⟨k,vY,L6,rfl,HL,HX⟩:=hrel;have Rs:=HX.o.size;have Sb:=ae (X8.o.trans HX.o);by_cases hlt:k<bn
          ·obtain⟨z,hz⟩:=b9 (nc+k);have XG:z<n10:=by have:=HU.o;have:=ED.o;omega
           obtain⟨zb',MF,ex,Z,F0,Mo,AV,Ed⟩:=(HC8.o.ext HX.o).zj.at XG;simp only[bA,mq,zz]at F0;obtain⟨rfl,rfl⟩:=F0;have A4:=LV.o.2 z (by have:=HU.o;have:=ED.o;omega);rw[Mo]at A4;have A4:=aQ A4;have hex0:-9223372036854775807<=ex:=by have:=A4.2.2.1;simp only at this;omega
           have hex1:ex<=9223372036854775807:=by have:=A4.2.2.2;simp only at this;omega
           have hnx0:-9223372036854775807<=-ex:=by have:=A4.2.2.2;simp only at this;omega
           have hnx1:-ex<=9223372036854775807:=by have:=A4.2.2.1;simp only at this;omega
           obtain⟨yB,yoffB,hbaB,Cn⟩:=(H.o.ext Sb.o).b.at hlt;subst hbaB;obtain⟨bi,B3⟩:=b9 (B[k]?.getD 0);rw[<-B3]at Cn;have L9:=ae (show dY B q2.costs nc k=BX bi (-ex,Z)by unfold dY;rw[<-hz,Mo,B3];rfl);have JX:IntKind.i64.wrap ((nc:Int)+(k:Int))=(z:Int):=by rw[cn];omega
           have NS:(z:Int)<(n10:Int):=by omega
           have NT:(0:Int)<=(z:Int):=by omega
           have KP:=ae B3;clear Mo B3 hz A4 Cn;go_wp2_with fail;refine(eo ex Z _ hex0 hex1).mono ?_;rintro e w9 ⟨rfl,hx⟩;obtain⟨E2,RU⟩:=b9 (w9.alloc (.cells #[.int .i64 (-ex),.int .i64 Z] 62));have Q:=ae (show ah I E2 w9.heap.size (-ex) Z by rw[RU];exact ah.new hx _ _);obtain⟨gb,B2⟩:=b9 w9.heap.size;rw[<-B2]at Q;have Le:=ae (Sb.o.trans Q.o.ext);go_upto_region 52 with fail;rw[<-RU,<-B2];clear RU B2 hx JX NS NT AV Ed;have p1:=aD (Le.o.blk zf.o);obtain⟨bb',ZA,OQ,Cn⟩:=(H.o.ext Le.o).b.at hlt;simp only[bA,mq,zz]at OQ;obtain⟨rfl,rfl⟩:=OQ;rw[<-KP.o]at Cn;have HL2:=ae (HL.o.ext Q.o.ext);have zt:=ae (HX.o.trans Q.o.ext);obtain⟨e1,DQ⟩:∃e1,BX bi (-ex,Z)=(e1,Z):=by unfold BX ze;split<;>exact⟨_,rfl⟩
           have Eh:=ae DQ;clear DQ
           go_upto_if 234 with fail
           go_cut [6] (fun s6 wx=>s6=.pointer (some ⟨w1.heap.size,0,none⟩)/\b7 (ah I wx gb e1 Z))
           case first =>
            have g0:=Q.o.c0;have g1':=Q.o.c1;have gf:=Q.o.free;by_cases Hc:bi<0
            ·have Ed:ex=e1:=by have:=Eh.o;unfold BX ze at this;rw[hI Hc]at this;exact(Int.neg_neg ex).symm.trans (Jr Prod.fst this)
             subst Ed;rw[show decide (bi<0)=true from z' Hc];go_wp2_with fail;refine(eo (-ex) Z _ hnx0 hnx1).mono ?_;rintro e w9 ⟨rfl,hx⟩;have Ck:=ae (Q.o.grow hx);clear hx g0 g1' gf;have g0:=Ck.o.c0;have g1':=Ck.o.c1;have gf:=Ck.o.free;go_wp2_with fail;go_meet;exact⟨rfl,ae (Ck.o.put _ _)⟩
            ·have Ed:e1=-ex:=by have:=Eh.o;unfold BX at this;rw[hD e7]at this;exact(Jr Prod.fst this).symm
             subst Ed;rw[show decide (bi<0)=false from u' e7];go_wp2_with fail;go_meet;exact⟨rfl,Q⟩
           obtain⟨rfl,A6⟩:=hcut;have EG:=ae (HL.o.ext A6.o.ext);have zk:=ae (HX.o.trans A6.o.ext);have g0:=A6.o.c0;have g1':=A6.o.c1;have y2:=(zN EG.o.box).2.2.1;have I1:=A6.o.lt;have hlb:=mr EG.o.box;have F6:=zk.o.size;have Hi:=ae (show((List.range k).map (dY B q2.costs nc)).length=k by simp);have Bw:=ae (show(List.range k).map (dY B q2.costs nc)++[(e1,Z)]=(List.range (k+1)).map (dY B q2.costs nc)by rw[<-Eh.o,<-L9.o];exact dm _ _);have YZ:=EG.o.hg;clear p1 Cn
           go_wp2_with (first
            | (at_builtin;refine aM rfl _ _ rfl w8.heap.size vY _ rfl (EG.o.y.ext (Ext.alloc _ _)) _ 1 _ [(e1,Z)] rfl (Rats.one' _ _ _ _ _ e8) (by rw[Hi.o];omega) (by simp;omega) ?_;intro v9 w9 ho hg k9;obtain⟨a9,n9,q9,rfl,PS⟩:=ho.var;have FR:=ae ho;have PY:=ae hg;have BH:=EG.o.Vn (Ext.alloc _ _) hg;have c09:=(zN BH).2.2.1;have WO:=(zN BH).2.2.2.2.2.2.2;have U5:Ext w8 w9:=ak (Ext.trans zk.o (Ext.alloc _ _)) hg (fun j hj=>(EG.o.y.lt j hj).1);clear ho hg k9 BH))
           have Xe:=ae (EG.o.SI (Ext.alloc _ _) PY.o FR.o);have IB:=ae (U5.setCell (p:=⟨g,2,none⟩) YZ (.slice a9 n9 q9))
           go_roundg (g2-1)
           case measure=>have:=L6.o;omega
           case rel=>exact⟨k+1,_,ae (j1 L6.o),by go_num,ae (by rw[<-Bw.o];exact Xe.o),IB⟩
          ·have zQ:bn=k:=by have:=L6.o;omega
           subst zQ;obtain⟨ay,ny,cy,rfl,HNY⟩:=HL.o.y.var;obtain⟨m0,m1,m2,m3,m4,m5,m6,mf⟩:=zN HL.o.box;obtain⟨l0,l1,l2,l3,l4,l5,l6,T5⟩:=zN (Sb.o.blk Af.o);have F8:=mr HL.o.box;have Yd:=X7.o.size;have Up:=X8.o.size;have hswz:=CR.o;go_wp2_with fail;refine bR (v:=.tuple #[CC ⟨1,(A7 q2.t).take nc,(List.range bn).map (dY B q2.costs nc),[],(-vx,vy),U⟩ ax nc cx ay ny cy none 0 0,.bool true]) (by simp[results,abd,go_sem,l0,l1,l2,l3,l4,l5,l6,T5]) rfl ⟨?_,(y7.o.trans Sb.o).AP (Cj _) _ _ _ _ _ _ _⟩;rw[J6.o,BV.o];refine⟨ax,nc,cx,ay,ny,cy,none,0,0,rfl,?_,?_,?_⟩
           ·exact((Sj.o.ext HX.o).keep fun i hi=>bU _ (j1 ((Sj.o.lt i hi).1)) _ _ _ _ _ _ _).Il (by have:=y7.o.size;have:=To.o.size;have:=X7.o.size;omega) (by have h1:=PQ.o;rw[CS.o]at h1;omega)
           ·exact(HL.o.y.keep fun i hi=>bU _ (j1 ((HL.o.y.lt i hi).1)) _ _ _ _ _ _ _).Dm (by have:=y7.o.size;have:=X8.o.size;omega)
           ·exact fun W _=>Rats.FW W
        ·subst hc
         have J6:=ae (show Bd A B C=some ⟨3,(A7 q2.t).take nc,[],AY q2.t nc J bn,(0,0),U⟩by
          rw[Hm.o,hI e7,Sh.o,CI])
         have ZX:=ae (ja HZ8.o.ints e7);rw[HZR.o]at ZX;go_wp2_with fail;refine ZX.o.mono ?_;rintro e w9 ⟨⟨v9,rfl,Ml⟩,hx⟩;obtain⟨a9,n9,c9,rfl,PS⟩:=Ml.var;obtain rfl:nc=n9:=by have h1:=PS.o;rw[O5]at h1;exact h1
         obtain⟨G,hG,Gf,H5,LH⟩:=Ml.block (k:=J) YQ;subst hG;have FR:=ae Ml;have GG:=ae hx;have hjc2:(J:Int)<(nc:Int):=by omega
         clear Ml hx;go_wp2_with fail;refine(cX 1 _).mono ?_;rintro e Ii ⟨rfl,hx⟩;have Cg:=ae (FR.o.ext hx);have IC:=ae (GG.o.trans hx);obtain⟨G',K9,g1v,g2v,CD,Fv,Fh,DY⟩:=Cg.o.zj.at YQ;simp only[bA,mq,zz]at CD;obtain⟨rfl,rfl⟩:=CD;rw[Mf]at Fh DY;have Ve:=aa5 LH hx.size;have UM:∀j,Ii.frozen? ⟨G,j,none⟩=false:=fun j=>(hx.frozen (p:=⟨G,j,none⟩) LH).trans (H5 j)
         have HRY:=ae (show o0 ((Ii.setCell ⟨G,J*2,none⟩ (.int .i64 1)).setCell ⟨G,J*2+1,none⟩ (.int .i64 1)) w8.heap.size (.slice (some ⟨G,0,none⟩) nc c9) (AY q2.t nc J 0)by
          rw[yt];exact Cg.o.set (k:=J) (by simp;omega) 1 1)
         have LP:=ae ((IC.o.setCell (p:=⟨G,J*2,none⟩) Gf (.int .i64 1)).setCell (p:=⟨G,J*2+1,none⟩) Gf (.int .i64 1));clear Fv hx H5;go_upto_region 40 with fail;obtain⟨Hr,Kl⟩:=b9 ((Ii.setCell ⟨G,J*2,none⟩ (.int .i64 1)).setCell ⟨G,J*2+1,none⟩ (.int .i64 1));rw[<-Kl]at HRY LP;rw[<-Kl];clear Kl Fh DY UM Ve LH;have Hl:=ae (LS.o.ext LP.o);obtain⟨c0,c1,c2,c3,c4,O⟩:=Hl.o.cells;go_wp2_with fail
         go_loopg [174] bn (fun gk ii wr=>∃i:Nat,b7 (gk+i=bn)/\ii=.int .i64 (i:Int)/\b7 (o0 wr w8.heap.size (.slice (some ⟨G,0,none⟩) nc c9) (AY q2.t nc J i))/\b7 (Ext w8 wr))
         case atStart=>exact⟨0,ae e7,rfl,HRY,LP⟩
         case round =>
          obtain⟨g2,Am⟩:=b9 gk;subst Am;obtain⟨I,zx⟩:=b9 wr;subst zx;obtain⟨i,HI,rfl,HR,E6⟩:=hrel;clear c0 c1 c2 c3 c4 O;have B6:=ae (LS.o.ext E6.o);obtain⟨c0,c1,c2,c3,c4,O⟩:=B6.o.cells;rw[Z5.o]at c3;have Hw:=E6.o.size;by_cases DI:i<bn
          ·obtain⟨eb,zl,DT,AV⟩:=B6.o.tb.CW.basis.at DI;subst DT;obtain⟨bb,Bg⟩:=b9 (q2.t.basis[i]?.getD 0);rw[<-Bg]at AV;have DC:=ae Bg;have GC:0<=bb/\bb<nc+bn:=by
            rw[Bg,bk (by rw[Ce.o.De];exact DI)];exact Ce.o.R7 _ (vl _)
           clear Bg;by_cases LD:bb<(nc:Int)
           ·obtain⟨bN,hbN⟩:∃n:Nat,bb=n:=⟨bb.toNat,by omega⟩;subst hbN;have JF:bN<nc:=by omega
            obtain⟨MH,Dk,ya,yn,yc,Kg,AU,o8⟩:=B6.o.tb.CW.rows.at DI;subst Kg;have Em:yn=nc+bn+1:=by rw[<-o8.hlen];exact(Ce.o.row i DI).1
            have An:=o8.l8;have EU:=o8.l9;obtain⟨yb,zE,p,q,ET,zR,Jm,Jl⟩:=o8.at (show J<yn by omega);subst ET;have Wx:(J:Int)<(yn:Int):=by omega
            have Ay:=ae (show q2.t.at i J=(p,q)from zR);have F7:-9223372036854775807<=p:=by have:=(Ce.o.bounds.2 i J).1;rw[Ay.o]at this;exact this
            have G9:p<=9223372036854775807:=by have:=(Ce.o.bounds.2 i J).2;rw[Ay.o]at this;exact this
            clear zR o8 Em GC;go_wp2_with fail;refine(eo p q _ F7 G9).mono ?_;rintro e EP ⟨rfl,hx⟩;have IH:=ae (HR.o.ext hx);have Sd:=ae (E6.o.trans hx);obtain⟨G',K9,g1v,g2v,CD,Fv,Fh,DY⟩:=IH.o.zj.at JF;simp only[bA,mq,zz]at CD;obtain⟨rfl,rfl⟩:=CD;rw[Mf]at Fh DY;obtain⟨G2,Zm,U1,UM,Ve⟩:=IH.o.block (k:=bN) JF;simp only[bA,mq,zz]at Zm;subst Zm
            have Qy:=ae (show o0 ((EP.setCell ⟨G,bN*2,none⟩ (.int .i64 (-p))).setCell ⟨G,bN*2+1,none⟩ (.int .i64 q)) w8.heap.size (.slice (some ⟨G,0,none⟩) nc c9) (AY q2.t nc J (i+1))by
             rw[nv (by rw[<-DC.o];omega),<-DC.o,CI,Ay.o]
             exact IH.o.set (k:=bN) (by rw[jd];exact JF) (-p) q)
            have IB:=ae ((Sd.o.setCell (p:=⟨G,bN*2,none⟩) U1 (.int .i64 (-p))).setCell (p:=⟨G,bN*2+1,none⟩) U1 (.int .i64 q));clear Fv hx c0 c1 c2 c3 c4 O;go_wp2_with fail
            go_roundg (g2-1)
            case measure=>have:=HI.o;omega
            case rel=>exact⟨i+1,ae (j1 HI.o),by go_num,Qy,IB⟩
           ·have Qy:=ae (show o0 I w8.heap.size (.slice (some ⟨G,0,none⟩) nc c9) (AY q2.t nc J (i+1))by rw[pT (by rw[<-DC.o];omega)];exact HR.o);clear GC;go_wp2_with fail
            go_roundg (g2-1)
            case measure=>have:=HI.o;omega
            case rel=>exact⟨i+1,ae (j1 HI.o),by go_num,Qy,E6⟩
          ·have zU:bn=i:=by have:=HI.o;omega
           subst zU;obtain⟨l0,l1,l2,l3,l4,l5,l6,T5⟩:=zN ((X8.o.trans E6.o).blk Af.o);have Up:=X8.o.size;have hswz:=CR.o;go_wp2_with fail;refine bR (v:=.tuple #[CC ⟨3,(A7 q2.t).take nc,[],AY q2.t nc J bn,(0,0),U⟩ ax nc cx none 0 0 (some ⟨G,0,none⟩) nc c9,.bool true]) (by simp[results,abd,go_sem,l0,l1,l2,l3,l4,l5,l6,T5]) rfl ⟨?_,(y7.o.trans (X8.o.trans E6.o)).AP (Cj _) _ _ _ _ _ _ _⟩;rw[J6.o];refine⟨ax,nc,cx,none,0,0,some ⟨G,0,none⟩,nc,c9,rfl,?_,?_,?_⟩
           ·exact((Sj.o.ext E6.o).keep fun i hi=>bU _ (by have:=(Sj.o.lt i hi).1;have:=X7.o.size;omega) _ _ _ _ _ _ _).Il (by have:=y7.o.size;have:=To.o.size;have:=X7.o.size;omega) (by have h1:=PQ.o;rw[CS.o]at h1;omega)
           ·exact fun W _=>Rats.FW W
           ·exact(HR.o.keep fun i hi=>bU _ (j1 ((HR.o.lt i hi).1)) _ _ _ _ _ _ _).Dm (by have:=y7.o.size;have:=X8.o.size;omega)
end
def Qr(w:World)(base:Nat)(e:Ending)(r:BQ):Prop:=∃xa xn xc ya yn yc ra rn rc,e=.returned (CC r xa xn xc ya yn yc ra rn rc)/\Dg w base xa xn xc ya yn yc ra rn rc r
theorem Qr.zero(w:World)(base:Nat)(s:Int):Qr w base (.returned (CC (aV s) none 0 0 none 0 0 none 0 0)) (aV s):=⟨none,0,0,none,0,0,none,0,0,rfl,Dg.zero w base s⟩
section
variable{w:World}{a:j6}{na ca:Nat}{b:j6}{nb cb:Nat}{c:j6}{nc cc:Nat}{A:j5}{B:j7}{C:j4}
theorem qv(h:EA w a na ca b nb cb c nc cc A B C):
 Calls Tryz.prog 70 #[DD a na ca b nb cb c nc cc] w fun e w'=>Qr w' w.heap.size e (bD ar A B C)/\Ext w w':=by
 have y9:=(Ext.alloc w (bj a na ca b nb cb c nc cc)).trans (Ext.alloc _ Qc);obtain⟨W,hW⟩:=b9 ((w.alloc (bj a na ca b nb cb c nc cc)).alloc Qc);rw[<-hW]at y9;have y7:=ae y9;have H:=ae (h.ext y9);have Af:=ae (show W.heap[w.heap.size+1]?=some (.cells #[.int .i64 0,.slice none 0 0,.slice none 0 0,.slice none 0 0,.int .i64 0,.int .i64 0,.int .i64 0] 72 (0,0))by rw[hW];exact ai _ _ _ e8);have zf:=ae (show W.heap[w.heap.size]?=some (.cells #[.slice a na ca,.slice b nb cb,.slice c nc cc] 68 (0,0))by rw[hW,aO _ _ _ e8];exact ai _ _ _ rfl);have CR:=ae (show W.heap.size=w.heap.size+1+1 by rw[hW];simp);have HV:=ae (eJ H.o);clear y9;cases zO:zM A B C
 ·rw[zO]at HV;have HR:=ae (show bD ar A B C=aV 0 by unfold bD;rw[zO];rfl);clear h zO;go_enter Tryz.func70,Tryz.ntmps70
  go_upto_region 1 with fail;rw[<-hW];clear hW;have p0:=am zf.o;have p1:=aD zf.o;have p2:=aG zf.o;go_wp2_with fail;refine HV.o.mono ?_;rintro e w1 ⟨rfl,hx⟩;have X1:=ae hx;obtain⟨l0,l1,l2,l3,l4,l5,Z,U⟩:=zN (X1.o.blk Af.o);clear hx p0 p1 p2;go_wp2_with fail;refine bR (v:=CC (aV 0) none 0 0 none 0 0 none 0 0) (by simp[results,acQ,go_sem,l0,l1,l2,l3,l4,l5,Z,U,aV]) rfl ⟨?_,(y7.o.trans X1.o).AP (Cj _) _ _ _ _ _ _ _⟩;rw[HR.o];exact Qr.zero _ _ _
 ·rw[zO]at HV;have A5:=ae zO;have CZ:=ae (show bD ar A B C=match Bd A B C with|none=>aV 4|some r=>if aK ar A B C r=true then r else aV 4 by unfold bD;rw[hI zO];cases Bd A B C<;>rfl);have Gn:=ae (fun(W':World) (hx:Ext W W')=>Rf (H.o.ext hx) A5.o);obtain⟨o,ho⟩:=b9 (Bd A B C);rw[<-ho]at CZ;simp only[<-ho]at Gn;clear h zO ho;go_enter Tryz.func70,Tryz.ntmps70
  go_upto_region 1 with fail;rw[<-hW];clear hW;have p0:=am zf.o;have p1:=aD zf.o;have p2:=aG zf.o;go_wp2_with fail;refine HV.o.mono ?_;rintro e w1 ⟨rfl,hx⟩;have X1:=ae hx;clear hx p0 p1 p2;have p0:=am (X1.o.blk zf.o);have p1:=aD (X1.o.blk zf.o);have p2:=aG (X1.o.blk zf.o);go_wp2_with fail;refine(Gn.o _ X1.o).mono ?_;rintro e w2 ⟨hs,hx⟩;have X2:=ae (X1.o.trans hx);clear hx p0 p1 p2;cases o with
  | none =>
    obtain⟨r,Q,K,O,J,G,I,ra,rn,rc,rfl⟩:=hs;have X3:=ae (X2.o.trans (Ext.alloc w2 (bX r Q K O J G I ra rn rc)));obtain⟨rs,rX,rY,rr,⟨zZ,zY⟩,rp⟩:=r;obtain⟨l0,l1,l2,l3,l4,l5,Z,U⟩:=zN (X3.o.blk Af.o);go_wp2_with fail;refine bR (v:=CC (aV 4) none 0 0 none 0 0 none 0 0) (by simp[results,acQ,go_sem,l0,l1,l2,l3,l4,l5,Z,U,aV]) rfl ⟨?_,(y7.o.trans X3.o).AP (Cj _) _ _ _ _ _ _ _⟩;rw[CZ.o];exact Qr.zero _ _ _
  | some r =>
    obtain⟨Q,K,O,J,G,I,ra,rn,rc,rfl,DH⟩:=hs;have X3:=ae (X2.o.trans (Ext.alloc w2 (bX r Q K O J G I ra rn rc)));have L4:=ae (DH.ext (Ext.alloc w2 (bX r Q K O J G I ra rn rc)));have A1:=ae (DH.here.ext (Ext.alloc w2 (bX r Q K O J G I ra rn rc)));have P9:=ae (fun(W':World) (hx:Ext (w2.alloc (bX r Q K O J G I ra rn rc)) W')=>xK (H.o.ext (X3.o.trans hx)) (A1.o.ext hx) A5.o);obtain⟨ck,UW⟩:=b9 (aK ar A B C r);have PG:=ae (show bD ar A B C=if ck=true then r else aV 4 by rw[CZ.o,UW]);simp only[<-UW]at P9;have DB:=ae (show(w2.alloc (bX r Q K O J G I ra rn rc)).heap[w2.heap.size]?=some (bX r Q K O J G I ra rn rc)from ai _ _ _ rfl);obtain⟨WR,Zi⟩:=b9 (w2.alloc (bX r Q K O J G I ra rn rc));obtain⟨gr,Bv⟩:=b9 w2.heap.size;rw[<-Zi,<-Bv]at DB;rw[<-Zi]at X3 A1 L4;simp only[<-Zi]at P9;obtain⟨rs,rX,rY,rr,⟨zZ,zY⟩,rp⟩:=r;clear DH UW;go_upto_region 4 with fail;rw[<-Zi,<-Bv];clear Zi Bv;have p0:=am (X3.o.blk zf.o);have p1:=aD (X3.o.blk zf.o);have p2:=aG (X3.o.blk zf.o);obtain⟨q0,q1,q2,q3,q4,q5,q6,qf⟩:=zN DB.o;go_wp2_with fail;refine(P9.o _ (Ext.refl _)).mono ?_;rintro e w4 ⟨rfl,hx⟩;have X4:=ae (X3.o.trans hx);have HLW4:=ae (L4.o.ext hx);obtain⟨l0,l1,l2,l3,l4,l5,Z,U⟩:=zN (X4.o.blk Af.o)
    have HBR4:=ae (hx.blk DB.o);clear hx p0 p1 p2 q0 q1 q2 q3 q4 q5 q6 qf;cases ck
    ·go_wp2_with fail;refine bR (v:=CC (aV 4) none 0 0 none 0 0 none 0 0) (by simp[results,acQ,go_sem,l0,l1,l2,l3,l4,l5,Z,U,aV]) rfl ⟨?_,(y7.o.trans X4.o).AP (Cj _) _ _ _ _ _ _ _⟩;rw[PG.o];exact Qr.zero _ _ _
    ·obtain⟨q0,q1,q2,q3,q4,q5,q6,qf⟩:=zN HBR4.o;have DF:=X1.o.size;have FM:=CR.o;go_wp2_with fail;refine bR (v:=CC ⟨rs,rX,rY,rr,(zZ,zY),rp⟩ Q K O J G I ra rn rc) (by simp[results,acQ,go_sem,l0,l1,l2,l3,l4,l5,Z,U]) rfl ⟨?_,(y7.o.trans X4.o).AP (Cj _) _ _ _ _ _ _ _⟩;rw[PG.o];exact⟨Q,K,O,J,G,I,ra,rn,rc,rfl,(HLW4.o.keep e8 fun k hk _=>bU _ e7 _ _ _ _ _ _ _).mono e7⟩
end
