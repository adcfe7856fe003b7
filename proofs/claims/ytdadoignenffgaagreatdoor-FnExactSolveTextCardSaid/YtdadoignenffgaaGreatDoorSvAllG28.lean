import Derived.Test.YtdadoignenffgaaGreatDoorSvAllG27
import Derived.Test.YtdadoignenffgaaGreatDoorSvAllG15
set_option linter.unusedVariables false
set_option linter.unusedSimpArgs false
namespace Go.Proofs.YtdadoignenffgaaGreatDoor
set_option maxHeartbeats 16000000
set_option maxRecDepth 100000
open Go.RowKit
theorem IS(a b:j8):-1000000000<=(vD a b).1.1/\(vD a b).1.1<=1000000000:=by
 cases h:(vD a b).2
 ·rw[om h];simp
 ·have:=aL (jU h).2.2.1;omega
theorem ag.Wo{w W:World}{g:Nat}{p q:Int}(h:ag w W g p q)(E:Int):ag w (W.setCell ⟨g,0,none⟩ (.int .i64 E)) g E q :=
 ⟨h.ext.setCell (p:=⟨g,0,none⟩) h.ge (.int .i64 E),h.ge,by rw[heap_setCell_same _ _ _ _ _ _ h.cell];rfl⟩
section
variable{w:World}{S:Nat}{a:j6}{na ca:Nat}{b:j6}{nb cb:Nat}{c:j6}{nc cc:Nat}{ra:j6}{rn rc:Nat}{ba:j6}{bn bc:Nat}{vs:List Value}{t:Tb}{n:Nat}{f:Bool}
theorem pW{N:Nat}(h:bz w S a na ca b na cb c nc cc ra rn rc ba bn bc vs t n f)(y7:t.q8=N){B:j7}(hB:Ints w b na cb B)(hca1:na<=ca)(hca2:ca<=9223372036854775807){ka:j6}{Q kc:Nat}{cs:j4}(hK:Rats w ka Q kc cs)(vZ:N+na<=Q)(hbig:Q<=100000)(base:Int):
 Calls Tryz.prog 168 #[.pointer (some ⟨S,0,none⟩),.slice ka Q kc,.int .i64 base] w fun e w'=>(∃v,e=.returned v/\l9 w' w.heap.size v ((List.range na).map (cY B (base,1) cs N)))/\Ext w w':=by
 have H:=ae h;have hlt:=lt_of_block h.box;have HB:=ae hB;have HK':=ae hK;have xL:=hB.l8;have wU:=hB.o0;have yx:=hK.l8;have F4:=hK.o0;have AV:=ae y7;have HO:=ae (l9.made w w.heap.size (Nat.le_refl _));have X0:=ae (Ext.alloc w (.cells #[] 62));clear h hB hK y7;go_enter Tryz.func168,Tryz.ntmps168
 go_wp2_with fail
 go_loopg [7,8] na (fun gk oo ii wr=>∃(k:Nat) (a1:j6) (n1 p1:Nat),b7 (gk+k=na)/\ii=.int .i64 (k:Int)/\oo=.slice a1 n1 p1/\b7 (l9 wr w.heap.size (.slice a1 n1 p1) ((List.range k).map (cY B (base,1) cs N)))/\b7 (Ext w wr))
 case atStart=>exact⟨0,_,_,_,ae e7,rfl,rfl,HO,X0⟩
 case round =>
  obtain⟨g1,o6⟩:=b9 gk;subst o6;obtain⟨E,o4⟩:=b9 wr;subst o4;obtain⟨k,a1,n1,q1,H8,rfl,rfl,vw,HX⟩:=hrel;have hsz:=HX.o.size;obtain⟨l0,l1,l2,c0,c1,c2,c3,c4,cf⟩:=(H.o.ext HX.o).cells;rw[AV.o]at c2;by_cases wm:k<na
  ·obtain⟨z,hz⟩:=b9 (N+k);have Su:z<Q:=by omega
   obtain⟨zb,vF,ex,W,zX,Ir,xj,J⟩:=(HK'.o.ext HX.o).at Su;subst zX;obtain⟨d1,d2,BY,G⟩:∃x y ok,vD (base,1) (ex,W)=((x,y),ok):=⟨_,_,_,rfl⟩;have Bk:=ae G;have Qe:=IS (base,1) (ex,W);rw[G]at Qe;have FU:IntKind.i64.wrap (-d1)=-d1:=by rw[IntKind.wrap_i64];simp only at Qe;omega
   obtain⟨bb,yR,YJ,At⟩:=(HB.o.ext HX.o).at wm;subst YJ;obtain⟨bi,Bx⟩:=b9 (B[k]?.getD 0);rw[<-Bx]at At;have BM:=ae At;have Ic:=ae (show cY B (base,1) cs N k=yz bi (d1,d2)by unfold cY;rw[<-hz,Ir,G,Bx]);have MM:IntKind.i64.wrap ((N:Int)+(k:Int))=(z:Int):=by rw[IntKind.wrap_i64];omega
   have JI:(0:Int)<=(z:Int):=by omega
   have JH:(z:Int)<(Q:Int):=by omega
   clear Ir G Bx hz Qe;go_upto_region 5 with fail;go_upto_region 5 with fail
   go_cut [9,10] (fun sx so wx=>∃g:Nat,sx=.pointer (some ⟨g,0,none⟩)/\so=.bool BY/\b7 (ag E wx g d1 d2))
   case first =>
    have k7:Ext E E.drew:=Ext.drew E;have vt:Ext E (E.alloc (.cells #[.int .i64 0,.int .i64 0] 62)).drew:=(Ext.alloc _ _).trans (Ext.drew _);have k8:=ae (fun(w':World) (h:Ext E w')=>(⟨h.j9 c2,h.j9 xj,h.j9 J,h⟩:w'.cell? ⟨S,5,none⟩=some (.int .i64 (N:Int))/\w'.cell? ⟨zb,vF+z*2,none⟩=some (.int .i64 ex)/\w'.cell? ⟨zb,vF+z*2+1,none⟩=some (.int .i64 W)/\Ext E w'))
    go_region_held3 (fun w'=>w'.cell? ⟨S,5,none⟩=some (.int .i64 (N:Int))/\w'.cell? ⟨zb,vF+z*2,none⟩=some (.int .i64 ex)/\w'.cell? ⟨zb,vF+z*2+1,none⟩=some (.int .i64 W)/\Ext E w')
     (first
       | with_reducible exact k8.o _ k7
       | with_reducible exact k8.o _ vt
       | with_reducible exact k8.o _ ((k7.setCell (by first|(simp;done)|(simp;omega)) _).setCell (by first|(simp;done)|(simp;omega)) _)
       | with_reducible exact k8.o _ (k7.trans (Ext.alloc _ _))
       | with_reducible exact k8.o _ (p4.put _ _).ext)
     (first
       | (go_at_call 49
          (with_reducible refine(cl base _).mono ?_)
          rintro e w7 ⟨rfl,O⟩
          first|(with_reducible have p4:=ag.grow p4 O)|(with_reducible have p4:=ag.vm O)|(with_reducible have p4:=ag.vq k7 O)|skip
          first|(have Ag:=p4.c0;have Af:=p4.c1;have Bb:=p4.free)|skip
          have k7:Ext E w7:=by first|with_reducible exact k7.trans O|with_reducible exact vt.trans O|with_reducible exact(k7.trans (Ext.alloc _ _)).trans O
          have xu:=k7.size)
       | (go_at_call 180
          (with_reducible refine(pS base 1 ex W _).mono ?_)
          rw[Bk.o];rintro e w8 ⟨rfl,K⟩
          first|(with_reducible have p4:=ag.grow p4 K)|(with_reducible have p4:=ag.vm K)|(with_reducible have p4:=ag.vq k7 K)|skip
          first|(have Ag:=p4.c0;have Af:=p4.c1;have Bb:=p4.free)|skip
          have k7:Ext E w8:=by first|with_reducible exact k7.trans K|with_reducible exact vt.trans K|with_reducible exact(k7.trans (Ext.alloc _ _)).trans K
          have xu:=k7.size)
       | fail)
    all_goals(go_wp2_with fail;go_meet;first|exact⟨_,rfl,rfl,ae (p4.put _ _)⟩|exact⟨_,rfl,rfl,ae (ag.new k7 _ _)⟩|exact⟨_,rfl,rfl,ae (ag.new' k7 _ _ e8)⟩)
   obtain⟨g,rfl,rfl,I⟩:=hcut;have GL:=ae (HX.o.trans I.o.ext);clear MM JI JH xj J l0 l1 l2 c0 c1 c2 c3 c4 cf At;obtain⟨l0,l1,l2,c0,c1,c2,c3,c4,cf⟩:=(H.o.ext GL.o).cells;have At:=I.o.ext.j9 BM.o;have wG:=ae (vw.o.ext I.o.ext);obtain⟨e1,AB⟩:∃e1,yz bi (d1,d2)=(e1,d2):=by unfold yz uU;split<;>exact⟨_,rfl⟩
   have A1:=ae AB;clear AB
   go_upto_if 46 with fail
   go_cut [8] (fun s8 wx=>s8=.int .i64 (k:Int)/\b7 (ag E wx g e1 d2))
   case first =>
    have g0:=I.o.c0;have g1':=I.o.c1;have gf:=I.o.free;by_cases Dn:bi<0
    ·have J:-d1=e1:=by have:=A1.o;unfold yz uU at this;rw[if_pos Dn]at this;exact congrArg Prod.fst this
     rw[show decide (bi<0)=true from decide_eq_true Dn];have Z:=ae (I.o.Wo e1);rw[J]at FU;clear Dn;go_wp2_with fail;go_meet;exact⟨rfl,by first|exact Z|(rw[J];exact Z)⟩
    ·have J:e1=d1:=by have:=A1.o;unfold yz at this;rw[if_neg e7]at this;exact(congrArg Prod.fst this).symm
     subst J;rw[show decide (bi<0)=false from decide_eq_false e7];go_wp2_with fail;go_meet;exact⟨rfl,I⟩
   obtain⟨rfl,U⟩:=hcut;have vi:=ae (vw.o.ext U.o.ext);have vk:=ae (HX.o.trans U.o.ext);have g0:=U.o.c0;have g1':=U.o.c1;have Ev:=U.o.lt;have Cs:=vk.o.size;have Du:=ae (show((List.range k).map (cY B (base,1) cs N)).length=k by simp);have xZ:=ae (show(List.range k).map (cY B (base,1) cs N)++[(e1,d2)]=(List.range (k+1)).map (cY B (base,1) cs N)by rw[<-A1.o,<-Ic.o];exact cM _ _);clear l0 l1 l2 c0 c1 c2 c3 c4 cf At FU
   go_wp2_with (first
    | (at_builtin;refine aI rfl _ _ rfl w.heap.size (.slice a1 n1 q1) _ rfl (vi.o.ext (Ext.alloc _ _)) _ 1 _ [(e1,d2)] rfl (Rats.one' _ _ _ _ _ e8) (by rw[Du.o];omega) (by simp;omega) ?_;intro v5 w5 ho hg l7;have X5:=ae (ak (vk.o.trans (Ext.alloc _ _)) hg (fun j hj=>(vi.o.lt j hj).1));obtain⟨a5,n5,p5,rfl,zj⟩:=ho.var;have vU:=ae ho;clear ho hg l7))
   go_roundg (g1-1)
   case measure=>have:=H8.o;omega
   case rel=>exact⟨k+1,a5,n5,p5,ae (j1 H8.o),by go_num,rfl,ae (by rw[<-xZ.o];exact vU.o),X5⟩
  ·have E4:na=k:=by have:=H8.o;omega
   subst E4;go_wp2_with fail;go_ret;exact⟨⟨_,rfl,vw.o⟩,HX.o⟩
end
section
variable{w:World}{S:Nat}{a:j6}{na ca:Nat}{b:j6}{nb cb:Nat}{c:j6}{nc cc:Nat}{ra:j6}{rc:Nat}{ba:j6}{bc:Nat}{vs:List Value}{t:Tb}{n:Nat}{N m:Nat}{T0:Nat->Nat->Rat}
theorem Mn(h:bz w S a na ca b nb cb c nc cc ra m rc ba m bc vs t n false)(hT:wo N m T0 t)(hN:N<=1000)(hm:m<=1000){E:Nat}(Tq:E<N):
 Calls Tryz.prog 171 #[.pointer (some ⟨S,0,none⟩),.int .i64 (E:Int)] w fun e w'=>(∃v,e=.returned v/\l9 w' w.heap.size v (xp t N E m))/\Ext w w':=by
 have H:=ae h;have hlt:=lt_of_block h.box;have HT:=ae hT;have AV:=ae hT.q8;have xm:=h.tb.zB.rows.l8;have yI:=h.tb.zB.rows.o0;have xL:=h.tb.zB.basis.l8;have wU:=h.tb.zB.basis.o0;have HO:=ae (l9.made w w.heap.size (Nat.le_refl _));have X0:=ae (Ext.alloc w (.cells #[] 62));clear h hT;go_enter Tryz.func171,Tryz.ntmps171
 go_wp2_with fail
 go_loopg [5,6] N (fun gk oo ii wr=>∃(k:Nat) (a1:j6) (n1 p1:Nat),b7 (gk+k=N)/\ii=.int .i64 (k:Int)/\oo=.slice a1 n1 p1/\b7 (l9 wr w.heap.size (.slice a1 n1 p1) ((List.range k).map fun i=>if i=E then((1:Int),(1:Int)) else(0,1)))/\b7 (Ext w wr))
 case atStart=>exact⟨0,_,_,_,ae e7,rfl,rfl,HO,X0⟩
 case round =>
  obtain⟨g1,o6⟩:=b9 gk;subst o6;obtain⟨o8,o4⟩:=b9 wr;subst o4;obtain⟨k,a1,n1,q1,H8,rfl,rfl,vw,HX⟩:=hrel;have hsz:=HX.o.size;obtain⟨l0,l1,l2,c0,c1,c2,c3,c4,cf⟩:=(H.o.ext HX.o).cells;rw[AV.o]at c2;by_cases wm:k<N
  ·have xg:=ae (show((List.range k).map fun i=>if i=E then((1:Int),(1:Int)) else(0,1)).length=k by simp);obtain⟨un,Bl⟩:∃u:Int,u=if k=E then 1 else 0:=⟨_,rfl⟩
   have xZ:=ae (show(List.range k).map (fun i=>if i=E then((1:Int),(1:Int)) else(0,1))++[(un,1)]=(List.range (k+1)).map fun i=>if i=E then((1:Int),(1:Int)) else(0,1)by
    rw[<-cM,Bl];congr 2;split<;>rfl)
   have Kb:((k:Int) == (E:Int))=decide (k=E):=by by_cases h:k=E<;>simp[h]<;>omega
   have Zq:=ae (show vX (decide (k=E))=un by rw[Bl];by_cases h:k=E<;>simp[h,vX]);have Mb:=ae (fun w'=>fD (decide (k=E)) w');rw[Zq.o]at Mb;clear Bl;go_wp2_with (first|(go_at_call 104;refine(Mb.o _).mono ?_;rintro e w2 ⟨rfl,rfl⟩));clear Kb;refine(cl un _).mono ?_;rintro e w3 ⟨rfl,hx⟩;have X3:=ae (HX.o.trans hx);have vi:=ae (vw.o.ext hx);have Cs:=X3.o.size;clear hx l0 l1 l2 c0 c1 c2 c3 c4 cf
   go_wp2_with (first
    | (at_builtin;refine aI rfl _ _ rfl w.heap.size (.slice a1 n1 q1) _ rfl (vi.o.ext (Ext.alloc _ _)) _ 1 _ [(un,1)] rfl (Rats.one' _ _ _ _ _ e8) (by rw[xg.o];omega) (by simp;omega) ?_;intro v5 w5 ho hg l7;have X5:=ae (ak (X3.o.trans (Ext.alloc _ _)) hg (fun j hj=>(vi.o.lt j hj).1));obtain⟨a5,n5,p5,rfl,zj⟩:=ho.var;have vU:=ae ho;clear ho hg l7))
   go_roundg (g1-1)
   case measure=>have:=H8.o;omega
   case rel=>exact⟨k+1,a5,n5,p5,ae (j1 H8.o),by go_num,rfl,ae (by rw[<-xZ.o];exact vU.o),X5⟩
  ·have E4:N=k:=by have:=H8.o;omega
   have LY:=ae (show l9 o8 w.heap.size (.slice a1 n1 q1) (xp t N E 0)by rw[E4];exact vw.o);obtain rfl:N=n1:=by have h1:=LY.o.uZ.hlen;rw[gX]at h1;exact h1
   clear E4;go_wp2_with fail;clear l0 l1 l2 c0 c1 c2 c3 c4 cf
   go_loopg [7] m (fun gk ii wr=>∃i:Nat,b7 (gk+i=m)/\ii=.int .i64 (i:Int)/\b7 (l9 wr w.heap.size (.slice a1 N q1) (xp t N E i))/\b7 (Ext w wr))
   case atStart=>exact⟨0,ae e7,rfl,LY,HX⟩
   case round =>
    obtain⟨g2,wv⟩:=b9 gk;subst wv;obtain⟨I,vo⟩:=b9 wr;subst vo;obtain⟨i,HI,rfl,HR,By⟩:=hrel;have yX:=ae (H.o.ext By.o);obtain⟨l0,l1,l2,c0,c1,c2,c3,c4,cf⟩:=yX.o.cells;rw[AV.o]at c2;have EW:=By.o.size;by_cases Ar:i<m
    ·obtain⟨Q,O,AD,W⟩:=yX.o.tb.zB.basis.at Ar;subst AD;obtain⟨U,xS⟩:=b9 (t.basis[i]?.getD 0);rw[<-xS]at W;have AF:=ae xS;have CY:0<=U/\U<N+m:=by
      rw[xS,List.getElem?_eq_getElem (by rw[HT.o.zM];exact Ar)];exact HT.o.NF _ (List.getElem_mem _)
     have Ts:(0:Int)<=(i:Int):=by omega
     have VA:(i:Int)<(m:Int):=by omega
     clear xS;go_upto_region 9 with fail;have k7:Ext I I.drew:=Ext.drew I;have k8:=ae (fun(w':World) (h:Ext I w')=>(⟨h.j9 c1,h.j9 c2,h.j9 W,h⟩:w'.cell? ⟨S,4,none⟩=some (.slice (some ⟨Q,O,none⟩) m bc)/\w'.cell? ⟨S,5,none⟩=some (.int .i64 (N:Int))/\w'.cell? ⟨Q,O+i,none⟩=some (.int .i64 U)/\Ext I w'));refine wp_region_held_drew (S:=(fun w'=>w'.cell? ⟨S,4,none⟩=some (.slice (some ⟨Q,O,none⟩) m bc)/\w'.cell? ⟨S,5,none⟩=some (.int .i64 (N:Int))/\w'.cell? ⟨Q,O+i,none⟩=some (.int .i64 U)/\Ext I w')) e9 ?_ (fun k9=>?_)
     ·exact k8.o _ k7
     refine tk 0 ?_;refine tk 1 ?_;refine tk 2 ?_;refine tk 3 ?_;refine tk 4 ?_;refine tk 5 ?_;refine tk 6 ?_;refine tk 7 ?_;refine tk 8 ?_;refine tk 9 ?_;refine tk 10 ?_;refine tk 11 ?_;refine tk 12 ?_;refine tk 13 ?_;refine wpAnyH_done e9 ?_ _;have vk:=ae (By.o.trans k7);have Eb:=ae (HR.o.ext k7);have DF:∃x,x=I.drew:=⟨_,rfl⟩;obtain⟨w3,DF⟩:=DF;rw[<-DF]at vk Eb;rw[<-DF];clear k7 l0 l1 l2 c0 c1 c2 c3 c4 cf W DF k8 k9;by_cases Hh:U<(N:Int)
     ·obtain⟨J,YK⟩:∃n:Nat,U=n:=⟨U.toNat,by omega⟩;subst YK;have Fe:J<N:=by omega
      obtain⟨l0,l1,l2,c0,c1,c2,c3,c4,cf⟩:=H.o.cells;obtain⟨eb',T5,Kk,W⟩:=H.o.tb.zB.basis.at Ar;simp only[Option.some.injEq,Addr.mk.injEq,and_true]at Kk;obtain⟨rfl,rfl⟩:=Kk;rw[<-AF.o]at W;obtain⟨IH,zT,ya,yn,yc,FQ,xr,o7⟩:=H.o.tb.zB.rows.at Ar;subst FQ;have A5:yn=N+m+1:=by rw[<-o7.hlen];exact(HT.o.row i Ar).1
      have xG:=o7.l8;have Bt:=o7.o0;obtain⟨yb,Z,p,q,Bs,vK,EP,EO⟩:=o7.at (show E<yn by omega);subst Bs;have RM:(E:Int)<(yn:Int):=by omega
      have hj0:(0:Int)<=(E:Int):=by omega
      have hbI:(J:Int)<(N:Int):=by omega
      have hbI0:(0:Int)<=(J:Int):=by omega
      have wI:=ae (show t.at i E=(p,q)from vK);have CV:-9223372036854775807<=p:=by have:=(HT.o.bounds.2 i E).1;rw[wI.o]at this;exact this
      have Dk:p<=9223372036854775807:=by have:=(HT.o.bounds.2 i E).2;rw[wI.o]at this;exact this
      have Bh:=ae CV;clear vK o7 A5 CY;obtain⟨G,hG,CB,_,_⟩:=Eb.o.block (k:=J) Fe;subst hG;go_upto_region 10 with fail;have k7:Ext w3 w3.drew:=Ext.drew w3;have k8:=ae (fun(w':World) (h:Ext w w')=>(⟨h.j9 c0,h.j9 c1,h.j9 W,h.j9 xr,h.j9 EP,h.j9 EO,h⟩:w'.cell? ⟨S,3,none⟩=some (.slice (some ⟨IH,zT,none⟩) m rc)/\w'.cell? ⟨S,4,none⟩=some (.slice (some ⟨Q,O,none⟩) m bc)/\w'.cell? ⟨Q,O+i,none⟩=some (.int .i64 (J:Int))/\w'.cell? ⟨IH,zT+i,none⟩=some (.slice (some ⟨yb,Z,none⟩) yn yc)/\w'.cell? ⟨yb,Z+E*2,none⟩=some (.int .i64 p)/\w'.cell? ⟨yb,Z+E*2+1,none⟩=some (.int .i64 q)/\Ext w w'));refine wp_region_held_drew (S:=(fun w'=>w'.cell? ⟨S,3,none⟩=some (.slice (some ⟨IH,zT,none⟩) m rc)/\w'.cell? ⟨S,4,none⟩=some (.slice (some ⟨Q,O,none⟩) m bc)/\w'.cell? ⟨Q,O+i,none⟩=some (.int .i64 (J:Int))/\w'.cell? ⟨IH,zT+i,none⟩=some (.slice (some ⟨yb,Z,none⟩) yn yc)/\w'.cell? ⟨yb,Z+E*2,none⟩=some (.int .i64 p)/\w'.cell? ⟨yb,Z+E*2+1,none⟩=some (.int .i64 q)/\Ext w w')) e9 ?_ (fun k9=>?_)
      ·exact k8.o _ (vk.o.trans k7)
      refine tk 0 ?_;refine tk 1 ?_;refine tk 2 ?_;refine tk 3 ?_;refine tk 4 ?_;refine tk 5 ?_;refine tk 6 ?_;refine tk 7 ?_;refine tk 8 ?_;refine tk 9 ?_;refine tk 10 ?_;refine tk 11 ?_;refine tk 12 ?_;refine tk 13 ?_;refine tk 14 ?_;refine tk 15 ?_;refine tk 16 ?_;refine tk 17 ?_;refine tk 18 ?_;refine tk 19 ?_;refine rd (i:=20) (h:=fun K hK=>?_);go_simp
      (go_at_call 51;refine(eB p q _ CV Dk).mono ?_;rintro e Bp ⟨rfl,yH⟩;have k7:=k7.trans yH;have Ec:=ae (Eb.o.ext k7);obtain⟨G',GI,VM,VL,zi,BV,DM,Cx⟩:=Ec.o.uZ.at Fe;simp only[Option.some.injEq,Addr.mk.injEq,and_true]at zi;obtain⟨rfl,rfl⟩:=zi;rw[Nat.zero_add]at DM Cx;obtain⟨G2,TT,Qn,Qa,QA⟩:=Ec.o.block (k:=J) Fe;simp only[Option.some.injEq,Addr.mk.injEq,and_true]at TT;subst TT;clear BV)
      go_wp2_with fail;refine hK.out _ _ ?_ (fun k9=>?_)
      ·exact k8.o _ (vk.o.trans k7)
      clear hK K
      try simp only[Act.put,sA,sB,sC]
      refine tk 21 ?_;have D7:=ae (((vk.o.trans k7).setCell (p:=⟨G,J*2,none⟩) CB (.int .i64 (-p))).setCell (p:=⟨G,J*2+1,none⟩) CB (.int .i64 q));refine rd (i:=22) (h:=fun K hK=>?_);go_simp;refine hK.out _ _ ?_ (fun k9=>?_)
      ·exact k8.o _ D7.o
      clear hK K
      try simp only[Act.put,sA,sB,sC]
      refine wpAnyH_done e9 ?_ _
      have LX:=ae (show l9 ((Bp.setCell ⟨G,J*2,none⟩ (.int .i64 (-p))).setCell ⟨G,J*2+1,none⟩ (.int .i64 q)) w.heap.size (.slice (some ⟨G,0,none⟩) N q1) (xp t N E (i+1))by
       rw[kM (by rw[<-AF.o];omega),<-AF.o,Int.toNat_natCast,wI.o]
       exact Ec.o.set (k:=J) (by rw[gX];exact Fe) (-p) q)
      go_wp2_with fail
      go_roundg (g2-1)
      case measure=>have:=HI.o;omega
      case rel=>exact⟨i+1,ae (j1 HI.o),by go_num,LX,D7⟩
     ·have LX:=ae (show l9 w3 w.heap.size (.slice a1 N q1) (xp t N E (i+1))by rw[mI (by rw[<-AF.o];omega)];exact Eb.o);clear CY;go_wp2_with fail
      go_roundg (g2-1)
      case measure=>have:=HI.o;omega
      case rel=>exact⟨i+1,ae (j1 HI.o),by go_num,LX,vk⟩
    ·have wq:m=i:=by have:=HI.o;omega
     subst wq;go_wp2_with fail;go_ret;exact⟨⟨_,rfl,HR.o⟩,By.o⟩
end
end Go.Proofs.YtdadoignenffgaaGreatDoor
