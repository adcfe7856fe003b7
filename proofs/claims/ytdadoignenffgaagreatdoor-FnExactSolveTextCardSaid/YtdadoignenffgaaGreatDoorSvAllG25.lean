import Derived.Test.YtdadoignenffgaaGreatDoorSvAllG24
import Derived.Test.YtdadoignenffgaaGreatDoorSvAllG22
import Derived.Test.YtdadoignenffgaaGreatDoorSvAllG14
set_option linter.unusedVariables false
set_option linter.unusedSimpArgs false
namespace Go.Proofs.YtdadoignenffgaaGreatDoor
variable{A:j5}{Cg j:Nat}{Y D:j4}
set_option maxHeartbeats 16000000
set_option maxRecDepth 100000
open Go.RowKit
theorem eO{r:j7}(h:∀x∈r,-5000<=x/\x<=5000):Ba r=true:=by
 unfold Ba;rw[List.all_eq_true];intro x hx;have:=h x hx;unfold r';simp;omega
theorem oa{w:World}{a:j6}{na ca:Nat}{b:j6}{nb cb:Nat}{c:j6}{nc cc:Nat}(h:dV w a na ca A){xa:j6}{xn:Nat}{X:j4}(hX:Rats w xa xn Cg X)
 {da:j6} {Q KM:Nat} {D:j7} (U:Ints w da Q KM D) (Ni:na<=Q) (o7:∀i,i<na->(A[i]?.getD []).length<=70/\∀x∈A[i]?.getD [],-5000<=x/\x<=5000) :
 Calls Tryz.prog 179 #[Al a na ca b nb cb c nc cc,.slice xa xn Cg,.slice da Q KM] w fun e w'=>e=.returned (.bool (dd A X D))/\Ext w w':=by
 have uS:=Ext.alloc w (aV a na ca b nb cb c nc cc);have uV:=ae uS;have HI:=ae (h.ext uS);have Av:=ae (hX.ext uS);have Bk:=ae (U.ext uS);have zD:=ae o7;have Iu:=h.l8;have It:=h.o0;have D1:=U.l8;have Nk:=U.o0;have zk:=ae h.hlen;have uW:=ae (show(w.alloc (aV a na ca b nb cb c nc cc)).heap[w.heap.size]?=some (.cells #[.slice a na ca,.slice b nb cb,.slice c nc cc] 68 (0,0))from aj _ _ _ rfl);have HE:=ae (show dd A X D=(List.range na).all (fj A X D)by rw[ni,zk.o]);clear h hX U uS o7;go_enter Tryz.func179,Tryz.ntmps179
 go_wp2_with fail
 go_loopg [7] na (fun gk ii wr=>∃k:Nat,b7 (gk+k=na)/\ii=.int .i64 (k:Int)/\b7 ((List.range k).all (fj A X D)=true)/\b7 (Ext (w.alloc (aV a na ca b nb cb c nc cc)) wr))
 case atStart=>exact⟨0,ae e7,rfl,ae rfl,ae (Ext.refl _)⟩
 case round =>
  obtain⟨g1,o6⟩:=b9 gk;subst o6;obtain⟨o8,o4⟩:=b9 wr;subst o4;obtain⟨k,Z,rfl,HA,HX⟩:=hrel;have hsz:=HX.o.size;rw[World.size_alloc]at hsz;by_cases hlt:k<na
  ·obtain⟨gb,D4,ra,rn,rc,P8,Nc,o7⟩:=(HI.o.ext HX.o).at hlt;subst P8;have zu:rn<=70:=by rw[<-o7.hlen];exact(zD.o k hlt).1
   have p0:=al (HX.o.blk uW.o);have X2:=HX;have HD:=ae (jP o7 (eO (zD.o k hlt).2) e7 (Av.o.ext X2.o));clear o7;obtain⟨dv,As⟩:=b9 (vg (ar (A[k]?.getD [])) X);have HG:=ae (show fj A X D k=decide (dv=some (D[k]?.getD 0,1))by rw[As];rfl);rw[<-As]at HD;clear As;obtain⟨db,Dq,Tz,O⟩:=(Bk.o.ext X2.o).at (show k<Q by omega);subst Tz;obtain⟨d,hd⟩:=b9 (D[k]?.getD 0);rw[<-hd]at HG O;clear hd;cases dv with
   | none =>
     rw[show vS none=((0,0),false)from rfl]at HD;have HF:=ae (show dd A X D=false by rw[HE.o];exact cX hlt (by rw[HG.o];rfl));go_wp2_with fail;refine HD.o.mono ?_;rintro e w3 ⟨rfl,K⟩;have X3:=ae (X2.o.trans K);clear K O;obtain⟨E,G⟩:=b9 (w3.alloc (.cells #[.int .i64 0,.int .i64 0] 62));have XE:=ae (show Ext w3 E by rw[G];exact Ext.alloc _ _);go_upto_region 5 with fail;rw[<-G];clear G;have k7:Ext E E.drew:=Ext.drew E;refine wp_region_held_drew (S:=(fun w'=>Ext E w')) e9 ?_ (fun k9=>?_)
     ·exact k7
     refine tk 0 ?_;refine tk 1 ?_;refine tk 2 ?_;refine sk 3 ?_;refine sk 4 ?_;refine sk 5 ?_;refine sk 6 ?_;refine sk 7 ?_;refine sk 8 ?_;refine sk 9 ?_;refine tk 10 ?_;refine wpAnyH_done e9 ?_ _;go_wp2_with fail;go_ret;exact⟨ai HF.o.symm,((uV.o.trans X3.o).trans XE.o).trans k7⟩
   | some r =>
     obtain⟨J,I⟩:=r;rw[show vS (some (J,I))=((J,I),true)from rfl]at HD;go_wp2_with fail;refine HD.o.mono ?_;rintro e w3 ⟨rfl,K⟩;replace O:=K.j9 O;have X3:=ae (X2.o.trans K);clear K;obtain⟨E,G⟩:=b9 (w3.alloc (.cells #[.int .i64 J,.int .i64 I] 62));have W:Ext w3 E:=by rw[G];exact Ext.alloc _ _
     have XE:=ae (X3.o.trans W);have e0:=W.j9 O;have b0:E.cell? ⟨w3.heap.size,0,none⟩=some (.int .i64 J):=by rw[G];simp
     have b1:E.cell? ⟨w3.heap.size,1,none⟩=some (.int .i64 I):=by rw[G];simp
     go_upto_region 5 with fail;rw[<-G];clear G O W;have wH:(k:Int)<(Q:Int):=by omega
     have BU:(0:Int)<=(k:Int):=by omega
     have k7:Ext E E.drew:=Ext.drew E;have k8:=ae (fun(w':World) (h:Ext E w')=>(⟨h.j9 e0,h.j9 b0,h.j9 b1,h⟩:w'.cell? ⟨db,Dq+k,none⟩=some (.int .i64 d)/\w'.cell? ⟨w3.heap.size,0,none⟩=some (.int .i64 J)/\w'.cell? ⟨w3.heap.size,1,none⟩=some (.int .i64 I)/\Ext E w'));have Ia:=ae (show fj A X D k=((J == d)&&(I == 1))by rw[HG.o,Bool.eq_iff_iff];simp);cases vO:(J == d)
     all_goals
      cases xG:(I == 1)
     all_goals
      have H':=ae Ia.o;rw[vO,xG]at H'
      go_region_held3 (fun w'=>w'.cell? ⟨db,Dq+k,none⟩=some (.int .i64 d)/\w'.cell? ⟨w3.heap.size,0,none⟩=some (.int .i64 J)/\w'.cell? ⟨w3.heap.size,1,none⟩=some (.int .i64 I)/\Ext E w')
       (first
         | with_reducible exact k8.o _ k7)
       (first
         | (go_at_call 49
            (with_reducible refine(cl _ _).mono ?_)
            rintro e w5 ⟨rfl,wX⟩
            have k7:Ext E w5:=k7.trans wX)
         | fail)
      have X5:=ae (XE.o.trans k7);clear k7
     all_goals try(
      have HF:=ae (show dd A X D=false by rw[HE.o];exact cX hlt (by rw[H'.o];rfl));go_wp2_with fail;go_ret
      exact⟨ai HF.o.symm,uV.o.trans X5.o⟩)
     have HT:=ae (show(List.range (k+1)).all (fj A X D)=true by rw[fK,HA.o,H'.o];rfl);go_wp2_with fail
     go_roundg (g1-1)
     case measure=>have:=Z.o;omega
     case rel=>exact⟨k+1,ae (j1 Z.o),by go_num,HT,X5⟩
  ·have vZ:na=k:=by have:=Z.o;omega
   subst vZ;have p0:=al (HX.o.blk uW.o);go_wp2_with fail;go_ret;exact⟨ai (by rw[HE.o,HA.o]),uV.o.trans HX.o⟩
section
variable{w:World}{a:j6}{na ca:Nat}{b:j6}{nb cb:Nat}{c:j6}{nc cc:Nat}{A:j5}{B:j7}{C:j4}
theorem jA(h:Bf w a na ca b nb cb c nc cc A B C)(ok:vG A B C=true){xa:j6}{xn Cg:Nat}{X:j4}(hX:Rats w xa xn Cg X):
 Calls Tryz.prog 177 #[Al a na ca b nb cb c nc cc,.slice xa xn Cg] w fun e w'=>e=.returned (.bool (dF A B C.length X))/\Ext w w':=by
 obtain⟨r1,r2,Q,O,I,K⟩:=co h ok;subst Q;have uS:=Ext.alloc w (aV a nb ca b nb cb c nc cc);have uV:=ae uS;have H:=ae (h.ext uS);have Av:=ae (hX.ext uS);have uW:=ae (show(w.alloc (aV a nb ca b nb cb c nc cc)).heap[w.heap.size]?=some (.cells #[.slice a nb ca,.slice b nb cb,.slice c nc cc] 68 (0,0))from aj _ _ _ rfl);have xB:=h.c.l8;have zC:=h.c.o0;have xL:=h.b.l8;have wU:=h.b.o0;have vO:=hX.l8;have vL:=hX.o0;have HV:=ae (dO H.o);rw[ok]at HV;have HE:=ae (show dF A B C.length X=(decide (xn=nc)&&(Ax X&&dd A X B))by unfold dF;rw[h.c.hlen,hX.hlen]);have Z:=ae I;clear h hX uS ok O I K;by_cases hn:xn=nc
 ·subst hn;have E:((xn:Int) == (xn:Int))=true:=by simp
  obtain⟨J,G⟩:=b9 (Ax X);obtain⟨U,BV⟩:=b9 (dd A X B);have zz:=ae (show dF A B C.length X=(J&&U)by rw[HE.o,<-G,<-BV];simp);have HN:=ae (fun(W:World) (hx:Ext (w.alloc (aV a nb ca b nb cb c xn cc)) W)=>iq (Av.o.ext hx));have HG:=ae (fun(W:World) (hx:Ext (w.alloc (aV a nb ca b nb cb c xn cc)) W)=>oa (b:=b) (nb:=nb) (cb:=cb) (c:=c) (nc:=xn) (cc:=cc) (H.o.ext hx).a (Av.o.ext hx) (H.o.ext hx).b (Nat.le_refl _) Z.o);simp only[<-G]at HN;simp only[<-BV]at HG;clear G BV;cases J
  ·go_enter Tryz.func177,Tryz.ntmps177
   go_wp2_with fail;refine HV.o.mono ?_;rintro e w1 ⟨rfl,hx⟩;have X1:=ae hx;clear hx;have p2:=av (X1.o.blk uW.o);go_wp2_with fail;refine(HN.o _ X1.o).mono ?_;rintro e w2 ⟨rfl,hx⟩;go_wp2_with fail;go_ret;exact⟨ai zz.o.symm,uV.o.trans (X1.o.trans hx)⟩
  ·go_enter Tryz.func177,Tryz.ntmps177
   go_wp2_with fail;refine HV.o.mono ?_;rintro e w1 ⟨rfl,hx⟩;have X1:=ae hx;clear hx;have p2:=av (X1.o.blk uW.o);go_wp2_with fail;refine(HN.o _ X1.o).mono ?_;rintro e w2 ⟨rfl,hx⟩;have X2:=ae (X1.o.trans hx);clear hx p2;have p0:=al (X2.o.blk uW.o);have p1:=au (X2.o.blk uW.o);have p2:=av (X2.o.blk uW.o);go_wp2_with fail;refine(HG.o _ X2.o).mono ?_;rintro e w3 ⟨rfl,hx⟩;go_wp2_with fail;go_ret;exact⟨ai zz.o.symm,uV.o.trans (X2.o.trans hx)⟩
 ·have E:((xn:Int) == (nc:Int))=false:=by simp;omega
  have HF:=ae (show dF A B C.length X=false by rw[HE.o,decide_eq_false hn];rfl);go_enter Tryz.func177,Tryz.ntmps177
  go_wp2_with fail;refine HV.o.mono ?_;rintro e w1 ⟨rfl,hx⟩;have X1:=ae hx;clear hx;have p2:=av (X1.o.blk uW.o);go_wp2_with fail;go_ret;exact⟨ai HF.o.symm,uV.o.trans X1.o⟩
theorem qy{A:j5}{Y D:j4}{j:Nat}(h:none=vg (ar (vJ A j)) Y):aX A Y D j=false:=by unfold aX;rw[ij,<-h]
theorem qz{A:j5}{Y D:j4}{j:Nat}{v d:j8}(h:some v=vg (ar (vJ A j)) Y)(hd:D[j]?.getD (0,0)=d):aX A Y D j=decide (0<=vP d v):=by unfold aX;rw[ij,<-h,hd]
theorem pV(h:Bf w a na ca b nb cb c nc cc A B C)(ok:vG A B C=true){ya:j6}{yn yc:Nat}{Y:j4}(hY:Rats w ya yn yc Y){da:j6}{U dc:Nat}{D:j4}(Z:Rats w da U dc D)(Ni:nc<=U):
 Calls Tryz.prog 174 #[Al a na ca b nb cb c nc cc,.slice ya yn yc,.slice da U dc] w fun e w'=>e=.returned (.bool ((List.range C.length).all (aX A Y D)))/\Ext w w':=by
 obtain⟨I,G,r3,r4,r5,r6⟩:=co h ok;subst r3;have uS:=Ext.alloc w (aV a nb ca b nb cb c nc cc);have uV:=ae uS;have H:=ae (h.ext uS);have Ex:=ae (hY.ext uS);have Bk:=ae (Z.ext uS);have uW:=ae (show(w.alloc (aV a nb ca b nb cb c nc cc)).heap[w.heap.size]?=some (.cells #[.slice a nb ca,.slice b nb cb,.slice c nc cc] 68 (0,0))from aj _ _ _ rfl);have xB:=h.c.l8;have zC:=h.c.o0;have D1:=Z.l8;have Nk:=Z.o0;have xN:=ae ok;have EH:=ae (fun j=>eO (fZ (A:=A) (fun i hi=>(r5 i (j1 h.a.hlen)).2) j));have HE:=ae (show(List.range C.length).all (aX A Y D)=(List.range nc).all (aX A Y D)by rw[h.c.hlen]);have zk:=ae h.a.hlen;clear h hY Z uS ok r4 r5 r6;go_enter Tryz.func174,Tryz.ntmps174
 go_wp2_with fail
 go_loopg [7] nc (fun gk ii wr=>∃k:Nat,b7 (gk+k=nc)/\ii=.int .i64 (k:Int)/\b7 ((List.range k).all (aX A Y D)=true)/\b7 (Ext (w.alloc (aV a nb ca b nb cb c nc cc)) wr))
 case atStart=>exact⟨0,ae e7,rfl,ae rfl,ae (Ext.refl _)⟩
 case round =>
  obtain⟨g1,o6⟩:=b9 gk;subst o6;obtain⟨o8,o4⟩:=b9 wr;subst o4;obtain⟨k,HK,rfl,HA,HX⟩:=hrel;have p0:=al (HX.o.blk uW.o);have p1:=au (HX.o.blk uW.o);have p2:=av (HX.o.blk uW.o);by_cases hlt:k<nc
  ·have AV:=ae (sX (H.o.ext HX.o) xN.o hlt);go_wp2_with fail;refine AV.o.mono ?_;rintro e w2 ⟨⟨v2,rfl,ho⟩,hx⟩;obtain⟨a2,n2,c2,rfl,ED⟩:=ho.var;have Eu:n2<=1048576:=by have h1:=ED.o;rw[kx,zk.o]at h1;omega
   have X2:=ae (HX.o.trans hx);have W:=ae (jP ho.ints (EH.o k) Eu (Ex.o.ext X2.o));obtain⟨dv,As⟩:=b9 (vg (ar (vJ A k)) Y);rw[<-As]at W;have Fq:=ae As;clear ho hx As p0 p1 p2;cases dv with
   | none =>
     rw[show vS none=((0,0),false)from rfl]at W;have HF:=ae (show(List.range nc).all (aX A Y D)=false from cX hlt (qy Fq.o));go_wp2_with fail;refine W.o.mono ?_;rintro e w3 ⟨rfl,Q⟩;have X3:=ae (X2.o.trans Q);clear Q;obtain⟨E,J⟩:=b9 (w3.alloc (.cells #[.int .i64 0,.int .i64 0] 62));have XE:=ae (show Ext w3 E by rw[J];exact Ext.alloc _ _);go_upto_region 5 with fail;rw[<-J];clear J;have k7:Ext E E.drew:=Ext.drew E;refine wp_region_held_drew (S:=(fun w'=>Ext E w')) e9 ?_ (fun k9=>?_)
     ·exact k7
     refine tk 0 ?_;refine tk 1 ?_;refine tk 2 ?_;refine sk 3 ?_;refine sk 4 ?_;refine sk 5 ?_;refine sk 6 ?_;refine sk 7 ?_;refine sk 8 ?_;refine sk 9 ?_;refine tk 10 ?_;refine wpAnyH_done e9 ?_ _;go_wp2_with fail;go_ret;exact⟨ai (by rw[HE.o,HF.o]),((uV.o.trans X3.o).trans XE.o).trans k7⟩
   | some r =>
     obtain⟨I,G⟩:=r;rw[show vS (some (I,G))=((I,G),true)from rfl]at W;go_wp2_with fail;refine W.o.mono ?_;rintro e w3 ⟨rfl,Q⟩;have X3:=ae (X2.o.trans Q);clear Q;obtain⟨E,J⟩:=b9 (w3.alloc (.cells #[.int .i64 I,.int .i64 G] 62));obtain⟨O,DL⟩:=b9 w3.heap.size;have yD:Ext w3 E:=by rw[J];exact Ext.alloc _ _
     have XE:=ae (X3.o.trans yD);have b0:E.cell? ⟨O,0,none⟩=some (.int .i64 I):=by rw[J,DL];simp
     have b1:E.cell? ⟨O,1,none⟩=some (.int .i64 G):=by rw[J,DL];simp
     obtain⟨db,Dq,dx,dy,Tz,Ew,e0,e1⟩:=(Bk.o.ext XE.o).at (show k<U by omega);subst Tz;obtain⟨cm,D2⟩:=b9 (vP (dx,dy) (I,G));have HB:=ae (show aX A Y D k=decide (0<=cm)by rw[D2];exact qz Fq.o Ew);have B6:=ae (fun w'=>gZ dx dy I G w');simp only[<-D2]at B6;go_upto_region 5 with fail;rw[<-J,<-DL];clear J DL yD D2 Ew;have wH:(k:Int)<(U:Int):=by omega
     have BU:(0:Int)<=(k:Int):=by omega
     have k7:Ext E E.drew:=Ext.drew E;have k8:=ae (fun(w':World) (h:Ext E w')=>(⟨h.j9 e0,h.j9 e1,h.j9 b0,h.j9 b1,h⟩:w'.cell? ⟨db,Dq+k*2,none⟩=some (.int .i64 dx)/\w'.cell? ⟨db,Dq+k*2+1,none⟩=some (.int .i64 dy)/\w'.cell? ⟨O,0,none⟩=some (.int .i64 I)/\w'.cell? ⟨O,1,none⟩=some (.int .i64 G)/\Ext E w'));refine wp_region_held_drew (S:=(fun w'=>w'.cell? ⟨db,Dq+k*2,none⟩=some (.int .i64 dx)/\w'.cell? ⟨db,Dq+k*2+1,none⟩=some (.int .i64 dy)/\w'.cell? ⟨O,0,none⟩=some (.int .i64 I)/\w'.cell? ⟨O,1,none⟩=some (.int .i64 G)/\Ext E w')) e9 ?_ (fun k9=>?_)
     ·exact k8.o _ k7
     refine tk 0 ?_;refine tk 1 ?_;refine tk 2 ?_;refine tk 3 ?_;refine tk 4 ?_;refine tk 5 ?_;refine tk 6 ?_;refine tk 7 ?_;refine rd (i:=8) (h:=fun K hK=>?_);go_simp
     (go_at_call 219;refine(B6.o _).mono ?_;rintro e w4 ⟨rfl,vW⟩;have k7:=k7.trans vW)
     go_wp2_with fail;refine hK.out _ _ ?_ (fun k9=>?_)
     ·exact k8.o _ k7
     clear hK K
     try simp only[Act.put,sA,sB,sC]
     refine tk 9 ?_;refine tk 10 ?_;refine wpAnyH_done e9 ?_ _;have X5:=ae (XE.o.trans k7);clear k7;by_cases wK:cm<0
     ·have HF:=ae (show(List.range nc).all (aX A Y D)=false from cX hlt (by rw[HB.o];simp;omega));go_wp2_with fail;go_ret;exact⟨ai (by rw[HE.o,HF.o]),uV.o.trans X5.o⟩
     ·have HT:=ae (show(List.range (k+1)).all (aX A Y D)=true by rw[fK,HA.o,HB.o];simp;omega);go_wp2_with fail
      go_roundg (g1-1)
      case measure=>have:=HK.o;omega
      case rel=>exact⟨k+1,ae (j1 HK.o),by go_num,HT,X5⟩
  ·have vZ:nc=k:=by have:=HK.o;omega
   subst vZ;go_wp2_with fail;go_ret;exact⟨ai (by rw[HE.o,HA.o]),uV.o.trans HX.o⟩
end
section
variable{w:World}{a:j6}{na ca:Nat}{b:j6}{nb cb:Nat}{c:j6}{nc cc:Nat}{A:j5}{B:j7}{C:j4}
 {xa:j6} {xn xc:Nat} {ya:j6} {yn yc:Nat} {ra:j6} {rn rc:Nat} {r:yu}
def G3(A:j5)(B:j7)(C:j4)(r:yu):Bool:=dF A B C.length r.X&&(decide (r.Y.length=B.length)&&((List.range C.length).all (aX A r.Y C)&&gm B C r))
theorem qV(h:Bf w a na ca b nb cb c nc cc A B C)(h':GM w xa xn xc ya yn yc ra rn rc r)(ok:vG A B C=true):
 Calls Tryz.prog 172 #[Al a na ca b nb cb c nc cc,zg r xa xn xc ya yn yc ra rn rc] w fun e w'=>e=.returned (.bool (G3 A B C r))/\Ext w w':=by
 obtain⟨r1,r2,r3,r4,r5,r6⟩:=co h ok;subst r3;have Q:=ae (show Two w ((w.alloc (aV a nb ca b nb cb c nc cc)).alloc (bH r xa xn xc ya yn yc ra rn rc)) a nb ca b nb cb c nc cc xa xn xc ya yn yc ra rn rc r A B C from⟨Ext.refl _,(h.ext (Ext.alloc _ _)).ext (Ext.alloc _ _),(h'.ext (Ext.alloc _ _)).ext (Ext.alloc _ _)⟩);have xG:=h'.y.l8;have Bt:=h'.y.o0;have xB:=h.c.l8;have zC:=h.c.o0;have xL:=h.b.l8;have wU:=h.b.o0;have xN:=ae ok;have Lp:=ae (eO r6);obtain⟨st,rX,Z,rr,rv,rp⟩:=r;obtain⟨v1,v2⟩:=rv;have GR:=ae h'.y.hlen;obtain⟨fv,P9⟩:=b9 (dF A B C.length rX)
 have HE:=ae (show G3 A B C ⟨st,rX,Z,rr,(v1,v2),rp⟩=(fv&&(decide (yn=nb)&&((List.range C.length).all (aX A Z C)&&gm B C ⟨st,rX,Z,rr,(v1,v2),rp⟩)))by
  unfold G3;rw[P9,h.b.hlen];simp only;rw[show Z.length=yn from h'.y.hlen])
 have HF:=ae (fun(W:World) (t:Two w W a nb ca b nb cb c nc cc xa xn xc ya yn yc ra rn rc ⟨st,rX,Z,rr,(v1,v2),rp⟩ A B C)=>jA t.lp xN.o t.lr.x);simp only[<-P9]at HF;obtain⟨dv,As⟩:=b9 ((List.range C.length).all (aX A Z C));have HD:=ae (fun(W:World) (t:Two w W a nb ca b nb cb c nc cc xa xn xc ya yn yc ra rn rc ⟨st,rX,Z,rr,(v1,v2),rp⟩ A B C)=>pV t.lp xN.o t.lr.y t.lp.c (Nat.le_refl _));simp only[<-As]at HD;rw[<-As]at HE;clear h h' ok r4 r5 r6 P9 As;obtain⟨V,hV⟩:=b9 (G3 A B C ⟨st,rX,Z,rr,(v1,v2),rp⟩);rw[<-hV];have Wa:=ae (hV.trans HE.o);clear hV HE;cases fv
 ·have HZ:=ae (show false=V by rw[Wa.o];rfl);go_enter Tryz.func172,Tryz.ntmps172
  obtain⟨p0,p1,p2⟩:=Q.o.p;obtain⟨O,q1,K,J,I,G⟩:=Q.o.q;go_wp2_with fail;refine(HF.o _ Q.o).mono ?_;rintro e w1 ⟨rfl,hx⟩;have U:=ae (Q.o.grow hx);clear hx p0 p1 p2 O q1 K J I G;go_wp2_with fail;go_ret;exact⟨ai HZ.o,U.o.all⟩
 ·by_cases A5:yn=nb
  ·subst A5;have hne:((yn:Int) != (yn:Int))=false:=by simp
   cases dv
   ·have HZ:=ae (show false=V by rw[Wa.o];simp);go_enter Tryz.func172,Tryz.ntmps172
    obtain⟨p0,p1,p2⟩:=Q.o.p;obtain⟨O,q1,K,J,I,G⟩:=Q.o.q;go_wp2_with fail;refine(HF.o _ Q.o).mono ?_;rintro e w1 ⟨rfl,hx⟩;have U:=ae (Q.o.grow hx);clear hx p0 p1 p2 O q1 K J I G;obtain⟨p0,p1,p2⟩:=U.o.p;obtain⟨O,q1,K,J,I,G⟩:=U.o.q;go_wp2_with fail;refine(HD.o _ U.o).mono ?_;rintro e w2 ⟨rfl,hx⟩;have T2:=ae (U.o.grow hx);clear hx p0 p1 p2 O q1 K J I G;go_wp2_with fail;go_ret;exact⟨ai HZ.o,T2.o.all⟩
   ·obtain⟨dx,Ew⟩:=b9 (vg C rX);obtain⟨dy,F7⟩:=b9 (vg (ar B) Z)
    have HM:=ae (show V=iR dx dy (v1,v2)by
     rw[Wa.o,Ew,F7];simp only[Bool.true_and,decide_true];rw[py];simp only;rw[ij Z])
    have FI:=ae (fun(W:World) (t:Two w W a yn ca b yn cb c nc cc xa xn xc ya yn yc ra rn rc ⟨st,rX,Z,rr,(v1,v2),rp⟩ A B C)=>kO t.lp.c t.lr.x);have Lr:=ae (fun(W:World) (t:Two w W a yn ca b yn cb c nc cc xa xn xc ya yn yc ra rn rc ⟨st,rX,Z,rr,(v1,v2),rp⟩ A B C)=>jP t.lp.b Lp.o e7 t.lr.y);simp only[<-Ew]at FI;simp only[<-F7]at Lr;clear Ew F7;obtain⟨x1,x2,LA,Gw⟩:∃x1 x2 LA,vS dx=((x1,x2),LA):=⟨_,_,_,rfl⟩;obtain⟨y1,y2,DV,Fu⟩:∃y1 y2 DV,vS dy=((y1,y2),DV):=⟨_,_,_,rfl⟩;have Av:=ae Gw;have Ex:=ae Fu;simp only[Gw]at FI;simp only[Fu]at Lr;clear Gw Fu;go_enter Tryz.func172,Tryz.ntmps172
    obtain⟨p0,p1,p2⟩:=Q.o.p;obtain⟨O,q1,K,J,I,G⟩:=Q.o.q;go_wp2_with fail;refine(HF.o _ Q.o).mono ?_;rintro e w1 ⟨rfl,hx⟩;have U:=ae (Q.o.grow hx);clear hx p0 p1 p2 O q1 K J I G;obtain⟨p0,p1,p2⟩:=U.o.p;obtain⟨O,q1,K,J,I,G⟩:=U.o.q;go_wp2_with fail;refine(HD.o _ U.o).mono ?_;rintro e w2 ⟨rfl,hx⟩;have T2:=ae (U.o.grow hx);clear hx p0 p1 p2 O q1 K J I G;obtain⟨p0,p1,p2⟩:=T2.o.p;obtain⟨O,q1,K,J,I,G⟩:=T2.o.q;go_wp2_with fail;refine(FI.o _ T2.o).mono ?_;rintro e w3 ⟨rfl,hx⟩;obtain⟨E,hE⟩:=b9 (w3.alloc (.cells #[.int .i64 x1,.int .i64 x2] 62));obtain⟨gx,hgx⟩:=b9 w3.heap.size;have yD:Ext w3 E:=by rw[hE];exact Ext.alloc _ _
    have TE:=ae ((T2.o.grow hx).grow yD);have BM:=ae (show ag w3 E gx x1 x2 by rw[hE,hgx];exact ag.new (Ext.refl _) _ _);go_upto_region 4 with fail;rw[<-hE,<-hgx];clear hE yD hx hgx p0 p1 p2 O q1 K J I G;obtain⟨p0,p1,p2⟩:=TE.o.p;obtain⟨O,q1,K,J,I,G⟩:=TE.o.q;go_wp2_with fail;refine(Lr.o _ TE.o).mono ?_;rintro e w4 ⟨rfl,hx⟩;obtain⟨F,hF⟩:=b9 (w4.alloc (.cells #[.int .i64 y1,.int .i64 y2] 62));obtain⟨gy,Yb⟩:=b9 w4.heap.size;have WH:Ext w4 F:=by rw[hF];exact Ext.alloc _ _
    have TW:=ae ((TE.o.grow hx).grow WH);have yN:=ae (BM.o.grow (hx.trans WH));have wy:=ae (show ag w4 F gy y1 y2 by rw[hF,Yb];exact ag.new (Ext.refl _) _ _);go_upto_region 5 with fail;rw[<-hF,<-Yb];clear hF WH hx Yb p0 p1 p2 O q1 K J I G;obtain⟨p0,p1,p2⟩:=TW.o.p;obtain⟨O,q1,K,J,I,G⟩:=TW.o.q;have c0:=yN.o.c0;have c1:=yN.o.c1;have g0:=wy.o.c0;have g1':=wy.o.c1;cases dx with
    | none =>
      have A8:LA=false:=by have:=Av.o;simp only[vS]at this;simpa using (congrArg Prod.snd this).symm
      subst A8;go_wp2_with fail;go_ret;exact⟨ai (by rw[HM.o,(iS _ _).1]),TW.o.all⟩
    | some xv =>
      have A8:LA=true:=by have:=Av.o;simp only[vS]at this;simpa using (congrArg Prod.snd this).symm
      have Bw:xv=(x1,x2):=by have:=Av.o;simp only[vS]at this;simpa using congrArg Prod.fst this
      subst A8 Bw;cases dy with
      | none =>
        have A8:DV=false:=by have:=Ex.o;simp only[vS]at this;simpa using (congrArg Prod.snd this).symm
        subst A8;go_wp2_with fail;go_ret;exact⟨ai (by rw[HM.o,(iS _ _).2]),TW.o.all⟩
      | some yv =>
        have A8:DV=true:=by have:=Ex.o;simp only[vS]at this;simpa using (congrArg Prod.snd this).symm
        have Bw:yv=(y1,y2):=by have:=Ex.o;simp only[vS]at this;simpa using congrArg Prod.fst this
        subst A8 Bw;have Lj:=ae (show V=(((x1 == y1)&&(x2 == y2))&&((x1 == v1)&&(x2 == v2)))by rw[HM.o,lO]);cases h1:(x1 == y1)
        all_goals
         cases h2:(x2 == y2)
        all_goals
         have Cc:=ae Lj.o;rw[h1,h2]at Cc
        all_goals try(
         have HF:=ae (show V=false by rw[Cc.o];rfl);go_wp2_with fail;go_ret
         exact⟨ai HF.o.symm,TW.o.all⟩)
        cases h3:(x1 == v1)
        all_goals
         cases h4:(x2 == v2)
        all_goals
         rw[h3,h4]at Cc;go_wp2_with fail;go_ret;exact⟨ai (by rw[Cc.o];rfl),TW.o.all⟩
  ·have hne:((yn:Int) != (nb:Int))=true:=by simp;omega
   have HZ:=ae (show false=V by rw[Wa.o,decide_eq_false A5];rfl);go_enter Tryz.func172,Tryz.ntmps172
   obtain⟨p0,p1,p2⟩:=Q.o.p;obtain⟨O,q1,K,J,I,G⟩:=Q.o.q;go_wp2_with fail;refine(HF.o _ Q.o).mono ?_;rintro e w1 ⟨rfl,hx⟩;have U:=ae (Q.o.grow hx);clear hx p0 p1 p2 O q1 K J I G;obtain⟨p0,p1,p2⟩:=U.o.p;obtain⟨O,q1,K,J,I,G⟩:=U.o.q;go_wp2_with fail;go_ret;exact⟨ai HZ.o,U.o.all⟩
end
theorem tC{v:j8}(hv:o9 v=true):decide (0<=vP (0,1) v)=decide (v.1<=0):=by
 have hb:=aL hv;unfold vP;rw[if_pos (by rw[hv];decide)];simp only;by_cases h:v.1<=0
 ·rw[if_neg e7,decide_eq_true h]
  split<;>rfl
 ·rw[if_pos e7,decide_eq_false h];rfl
theorem qA(A:j5)(Y:j4){n:Nat}(E:∀j,j<n->D[j]?.getD (0,0)=(0,1)):(List.range n).all (aX A Y D)=(List.range n).all (Mz A Y):=by
 rw[Bool.eq_iff_iff,List.all_eq_true,List.all_eq_true];have key:∀j,j<n->aX A Y D j=Mz A Y j:=by
  intro j hj;unfold aX Mz Wq;rw[E j hj];cases hd:vg Y (ar (vJ A j))with
  | none=>rfl
  | some v=>exact tC (dz hd).2.1
 constructor
 ·intro h j hj;rw[<-key j (List.mem_range.1 hj)];exact h j hj
 ·intro h j hj;rw[key j (List.mem_range.1 hj)];exact h j hj
theorem pH{n:Nat}(h:j<n):(List.replicate n ((0:Int),(1:Int)))[j]?.getD (0,0)=(0,1):=by rw[List.getElem?_replicate,if_pos h];rfl
section
variable{w:World}{a:j6}{na ca:Nat}{b:j6}{nb cb:Nat}{c:j6}{nc cc:Nat}{A:j5}{B:j7}{C:j4}
 {xa:j6} {xn xc:Nat} {ya:j6} {yn yc:Nat} {ra:j6} {rn rc:Nat} {r:yu}
theorem sU(h:Bf w a na ca b nb cb c nc cc A B C)(h':GM w xa xn xc ya yn yc ra rn rc r)(ok:vG A B C=true)(hs:r.status=1):
 Calls Tryz.prog 108 #[Al a na ca b nb cb c nc cc,zg r xa xn xc ya yn yc ra rn rc] w fun e w'=>e=.returned (.bool (aG aX A B C r))/\Ext w w':=by
 obtain⟨r1,r2,r3,r4,r5,r6⟩:=co h ok;subst r3;have I:=ae (show Two w ((w.alloc (aV a nb ca b nb cb c nc cc)).alloc (bH r xa xn xc ya yn yc ra rn rc)) a nb ca b nb cb c nc cc xa xn xc ya yn yc ra rn rc r A B C from⟨Ext.refl _,(h.ext (Ext.alloc _ _)).ext (Ext.alloc _ _),(h'.ext (Ext.alloc _ _)).ext (Ext.alloc _ _)⟩);have xG:=h'.y.l8;have Bt:=h'.y.o0;have xm:=h'.zf.l8;have yI:=h'.zf.o0;have xB:=h.c.l8;have zC:=h.c.o0;have xL:=h.b.l8;have wU:=h.b.o0;have xN:=ae ok;have Lp:=ae (eO r6);have EB:=ae r5;obtain⟨st,O,K,J,rv,G⟩:=r;obtain⟨v1,v2⟩:=rv;simp only at hs;subst hs;have GR:=ae h'.y.hlen;have xi:=ae h.b.hlen;have yw:=ae h.c.hlen;have xE:=ae h'.zf.hlen;have HV:=ae (dO I.o.lp);rw[ok]at HV;obtain⟨V,hV⟩:=b9 (aG aX A B C ⟨1,O,K,J,(v1,v2),G⟩);rw[<-hV];have Cb:=ae (show V=G3 A B C ⟨1,O,K,J,(v1,v2),G⟩by rw[hV];unfold aG G3;rw[if_pos rfl]);have Dy:=ae (fun(W:World) (t:Two w W a nb ca b nb cb c nc cc xa xn xc ya yn yc ra rn rc ⟨1,O,K,J,(v1,v2),G⟩ A B C)=>qV t.lp t.lr xN.o);simp only[<-Cb.o]at Dy;clear h h' ok r4 r5 r6;clear hV;go_enter Tryz.func108,Tryz.ntmps108
 obtain⟨p0,p1,p2⟩:=I.o.p;obtain⟨q0,q1,q2,Z,U,Q⟩:=I.o.q;go_wp2_with fail;refine HV.o.mono ?_;rintro e w1 ⟨rfl,hx⟩;have E:=ae (I.o.grow hx);clear hx p0 p1 p2 q0 q1 q2 Z U Q;obtain⟨p0,p1,p2⟩:=E.o.p;obtain⟨q0,q1,q2,Z,U,Q⟩:=E.o.q;have T1F:=ae (E.o.ext.j9 (v:=.int .i64 G) (a:=⟨w.heap.size+1,6,none⟩) e8);have q6:=T1F.o;go_wp2_with fail;refine(Dy.o _ E.o).mono ?_;rintro e w2 ⟨rfl,hx⟩;have T2:=ae (E.o.grow hx);clear hx p0 p1 p2 q0 q1 q2 Z U Q q6;go_wp2_with fail;go_ret;exact⟨rfl,T2.o.all⟩
theorem sV(h:Bf w a na ca b nb cb c nc cc A B C)(h':GM w xa xn xc ya yn yc ra rn rc r)(ok:vG A B C=true)(hs:r.status=2):
 Calls Tryz.prog 108 #[Al a na ca b nb cb c nc cc,zg r xa xn xc ya yn yc ra rn rc] w fun e w'=>e=.returned (.bool (aG aX A B C r))/\Ext w w':=by
 obtain⟨r1,r2,r3,r4,r5,r6⟩:=co h ok;subst r3;have T0:=ae (show Two w ((w.alloc (aV a nb ca b nb cb c nc cc)).alloc (bH r xa xn xc ya yn yc ra rn rc)) a nb ca b nb cb c nc cc xa xn xc ya yn yc ra rn rc r A B C from⟨Ext.refl _,(h.ext (Ext.alloc _ _)).ext (Ext.alloc _ _),(h'.ext (Ext.alloc _ _)).ext (Ext.alloc _ _)⟩);have xG:=h'.y.l8;have Bt:=h'.y.o0;have xm:=h'.zf.l8;have yI:=h'.zf.o0;have xB:=h.c.l8;have zC:=h.c.o0;have xL:=h.b.l8;have wU:=h.b.o0;have xN:=ae ok;have Lp:=ae (eO r6);have EB:=ae r5;obtain⟨st,rX,U,rr,rv,rp⟩:=r;obtain⟨v1,v2⟩:=rv;simp only at hs;subst hs;have GR:=ae h'.y.hlen;have xi:=ae h.b.hlen;have yw:=ae h.c.hlen;have xE:=ae h'.zf.hlen;have HV:=ae (dO T0.o.lp);rw[ok]at HV;obtain⟨V,hV⟩:=b9 (aG aX A B C ⟨2,rX,U,rr,(v1,v2),rp⟩);rw[<-hV];obtain⟨dv,As⟩:=b9 ((List.range C.length).all (aX A U (List.replicate nc (0,1))));obtain⟨dy,F7⟩:=b9 (vg (ar B) U)
 have Cb:=ae (show V=(decide (yn=nb)&&(dv&&Jg dy))by
  rw[hV,As,F7];unfold aG;rw[if_neg e8,if_pos rfl];simp only;rw[lS,xi.o,show U.length=yn from GR.o,ij U,qA A U (fun j hj=>pH (by rw[<-yw.o];exact hj))])
 have Pc:=ae (fun(W:World) (t:Two w W a nb ca b nb cb c nc cc xa xn xc ya yn yc ra rn rc ⟨2,rX,U,rr,(v1,v2),rp⟩ A B C) (za:j6) (zn zc:Nat) (hz:Rats W za zn zc (List.replicate nc (0,1))) (G4:nc<=zn)=>pV t.lp xN.o t.lr.y hz G4);have Lr:=ae (fun(W:World) (t:Two w W a nb ca b nb cb c nc cc xa xn xc ya yn yc ra rn rc ⟨2,rX,U,rr,(v1,v2),rp⟩ A B C)=>jP t.lp.b Lp.o e7 t.lr.y);simp only[<-As]at Pc;simp only[<-F7]at Lr;obtain⟨G,J,DV,Fu⟩:∃G J DV,vS dy=((G,J),DV):=⟨_,_,_,rfl⟩;simp only[Fu]at Lr
 have Ex:=ae (show Jg dy=(DV&&decide (0<G))by
  cases dy with
  | none=>simp only[vS]at Fu;cases Fu;rfl
  | some v=>obtain⟨z1,z2⟩:=v;simp only[vS,Option.getD_some,Option.isSome_some,Prod.mk.injEq]at Fu;obtain⟨⟨rfl,rfl⟩,rfl⟩:=Fu;rfl)
 clear h h' ok r4 r5 r6;clear hV As F7 Fu;have AI:((2:Int) == 1)=false:=by decide
 go_enter Tryz.func108,Tryz.ntmps108
 obtain⟨p0,p1,p2⟩:=T0.o.p;obtain⟨q0,q1,q2,q3,q4,q5⟩:=T0.o.q;go_wp2_with fail;refine HV.o.mono ?_;rintro e w1 ⟨rfl,hx⟩;have T1:=ae (T0.o.grow hx);clear hx p0 p1 p2 q0 q1 q2 q3 q4 q5;obtain⟨p0,p1,p2⟩:=T1.o.p;obtain⟨q0,q1,q2,q3,q4,q5⟩:=T1.o.q;go_wp2_with fail;refine(Lr.o _ T1.o).mono ?_;rintro e w2 ⟨rfl,hx⟩;obtain⟨E,hE⟩:=b9 (w2.alloc (.cells #[.int .i64 G,.int .i64 J] 62));obtain⟨I,Z⟩:=b9 w2.heap.size;have yD:Ext w2 E:=by rw[hE];exact Ext.alloc _ _
 have TE:=ae ((T1.o.grow hx).grow yD);have BM:=ae (show ag w2 E I G J by rw[hE,Z];exact ag.new (Ext.refl _) _ _);go_upto_region 8 with fail;rw[<-hE,<-Z];clear hE yD hx Z p0 p1 p2 q0 q1 q2 q3 q4 q5;obtain⟨p0,p1,p2⟩:=TE.o.p;obtain⟨q0,q1,q2,q3,q4,q5⟩:=TE.o.q;have b0:=BM.o.c0;have b1:=BM.o.c1;have k7:Ext E E.drew:=Ext.drew E;have k8:=ae (fun(w':World) (h:Ext E w')=>(⟨h.j9 p0,h.j9 p1,h.j9 p2,h.j9 q2,h.j9 b0,h.j9 b1,h⟩:w'.cell? ⟨w.heap.size,0,none⟩=some (.slice a nb ca)/\w'.cell? ⟨w.heap.size,1,none⟩=some (.slice b nb cb)/\w'.cell? ⟨w.heap.size,2,none⟩=some (.slice c nc cc)/\w'.cell? ⟨w.heap.size+1,2,none⟩=some (.slice ya yn yc)/\w'.cell? ⟨I,0,none⟩=some (.int .i64 G)/\w'.cell? ⟨I,1,none⟩=some (.int .i64 J)/\Ext E w'));by_cases A5:yn=nb
 ·have hne:((yn:Int) == (nb:Int))=true:=by simp;omega
  have LQ:=ae A5;clear A5;cases dv
  ·have HZ:=ae (show false=V by rw[Cb.o];simp);refine wp_region_held_drew (S:=(fun w'=>w'.cell? ⟨w.heap.size,0,none⟩=some (.slice a nb ca)/\w'.cell? ⟨w.heap.size,1,none⟩=some (.slice b nb cb)/\w'.cell? ⟨w.heap.size,2,none⟩=some (.slice c nc cc)/\w'.cell? ⟨w.heap.size+1,2,none⟩=some (.slice ya yn yc)/\w'.cell? ⟨I,0,none⟩=some (.int .i64 G)/\w'.cell? ⟨I,1,none⟩=some (.int .i64 J)/\Ext E w')) e9 ?_ (fun O=>?_)
   ·exact k8.o _ k7
   refine tk 0 ?_;refine tk 1 ?_;refine tk 2 ?_;refine tk 3 ?_;refine tk 4 ?_;refine tk 5 ?_;refine tk 6 ?_;refine tk 7 ?_;refine tk 8 ?_;refine tk 9 ?_;refine tk 10 ?_;refine tk 11 ?_;refine tk 12 ?_;refine tk 13 ?_;refine rd (i:=14) (h:=fun K hK=>?_);go_simp
   (go_at_call 175;refine(jC nc e7).mono ?_;rintro e w3 ⟨⟨v3,rfl,Q⟩,vj⟩;have k7:=k7.trans vj;obtain⟨a3,n3,c3,rfl,Fx⟩:=Q.var;have EZ:nc<=n3:=by(have h1:=Fx.out;rw[List.length_replicate]at h1;omega))
   go_wp2_with fail;refine hK.out _ _ ?_ (fun O=>?_)
   ·exact k8.o _ k7
   clear hK K
   try simp only[Act.put,sA,sB,sC]
   refine rd (i:=15) (h:=fun K hK=>?_);go_simp
   (go_at_call 174;refine(Pc.o _ (TE.o.grow k7) _ _ _ Q.uZ EZ).mono ?_;rintro e w4 ⟨rfl,vW⟩;have k7:=k7.trans vW)
   go_wp2_with fail;refine hK.out _ _ ?_ (fun O=>?_)
   ·exact k8.o _ k7
   clear hK K
   try simp only[Act.put,sA,sB,sC]
   refine tk 16 ?_;refine tk 17 ?_;refine sk 18 ?_;refine tk 19 ?_;refine tk 20 ?_;refine sk 21 ?_;refine sk 22 ?_;refine sk 23 ?_;refine tk 24 ?_;refine tk 25 ?_;refine wpAnyH_done e9 ?_ _;go_wp2_with fail;go_ret;exact⟨ai HZ.o,(TE.o.grow k7).all⟩
  ·cases DV
   ·have HZ:=ae (show false=V by rw[Cb.o,Ex.o,decide_eq_true LQ.o];simp);refine wp_region_held_drew (S:=(fun w'=>w'.cell? ⟨w.heap.size,0,none⟩=some (.slice a nb ca)/\w'.cell? ⟨w.heap.size,1,none⟩=some (.slice b nb cb)/\w'.cell? ⟨w.heap.size,2,none⟩=some (.slice c nc cc)/\w'.cell? ⟨w.heap.size+1,2,none⟩=some (.slice ya yn yc)/\w'.cell? ⟨I,0,none⟩=some (.int .i64 G)/\w'.cell? ⟨I,1,none⟩=some (.int .i64 J)/\Ext E w')) e9 ?_ (fun O=>?_)
    ·exact k8.o _ k7
    refine tk 0 ?_;refine tk 1 ?_;refine tk 2 ?_;refine tk 3 ?_;refine tk 4 ?_;refine tk 5 ?_;refine tk 6 ?_;refine tk 7 ?_;refine tk 8 ?_;refine tk 9 ?_;refine tk 10 ?_;refine tk 11 ?_;refine tk 12 ?_;refine tk 13 ?_;refine rd (i:=14) (h:=fun K hK=>?_);go_simp
    (go_at_call 175;refine(jC nc e7).mono ?_;rintro e w3 ⟨⟨v3,rfl,Q⟩,vj⟩;have k7:=k7.trans vj;obtain⟨a3,n3,c3,rfl,Fx⟩:=Q.var;have EZ:nc<=n3:=by(have h1:=Fx.out;rw[List.length_replicate]at h1;omega))
    go_wp2_with fail;refine hK.out _ _ ?_ (fun O=>?_)
    ·exact k8.o _ k7
    clear hK K
    try simp only[Act.put,sA,sB,sC]
    refine rd (i:=15) (h:=fun K hK=>?_);go_simp
    (go_at_call 174;refine(Pc.o _ (TE.o.grow k7) _ _ _ Q.uZ EZ).mono ?_;rintro e w4 ⟨rfl,vW⟩;have k7:=k7.trans vW)
    go_wp2_with fail;refine hK.out _ _ ?_ (fun O=>?_)
    ·exact k8.o _ k7
    clear hK K
    try simp only[Act.put,sA,sB,sC]
    refine tk 16 ?_;refine tk 17 ?_;refine tk 18 ?_;refine tk 19 ?_;refine tk 20 ?_;refine sk 21 ?_;refine sk 22 ?_;refine sk 23 ?_;refine tk 24 ?_;refine tk 25 ?_;refine wpAnyH_done e9 ?_ _;go_wp2_with fail;go_ret;exact⟨ai HZ.o,(TE.o.grow k7).all⟩
   ·have HZ:=ae (show decide (0<G)=V by rw[Cb.o,Ex.o,decide_eq_true LQ.o];simp);refine wp_region_held_drew (S:=(fun w'=>w'.cell? ⟨w.heap.size,0,none⟩=some (.slice a nb ca)/\w'.cell? ⟨w.heap.size,1,none⟩=some (.slice b nb cb)/\w'.cell? ⟨w.heap.size,2,none⟩=some (.slice c nc cc)/\w'.cell? ⟨w.heap.size+1,2,none⟩=some (.slice ya yn yc)/\w'.cell? ⟨I,0,none⟩=some (.int .i64 G)/\w'.cell? ⟨I,1,none⟩=some (.int .i64 J)/\Ext E w')) e9 ?_ (fun O=>?_)
    ·exact k8.o _ k7
    refine tk 0 ?_;refine tk 1 ?_;refine tk 2 ?_;refine tk 3 ?_;refine tk 4 ?_;refine tk 5 ?_;refine tk 6 ?_;refine tk 7 ?_;refine tk 8 ?_;refine tk 9 ?_;refine tk 10 ?_;refine tk 11 ?_;refine tk 12 ?_;refine tk 13 ?_;refine rd (i:=14) (h:=fun K hK=>?_);go_simp
    (go_at_call 175;refine(jC nc e7).mono ?_;rintro e w3 ⟨⟨v3,rfl,Q⟩,vj⟩;have k7:=k7.trans vj;obtain⟨a3,n3,c3,rfl,Fx⟩:=Q.var;have EZ:nc<=n3:=by(have h1:=Fx.out;rw[List.length_replicate]at h1;omega))
    go_wp2_with fail;refine hK.out _ _ ?_ (fun O=>?_)
    ·exact k8.o _ k7
    clear hK K
    try simp only[Act.put,sA,sB,sC]
    refine rd (i:=15) (h:=fun K hK=>?_);go_simp
    (go_at_call 174;refine(Pc.o _ (TE.o.grow k7) _ _ _ Q.uZ EZ).mono ?_;rintro e w4 ⟨rfl,vW⟩;have k7:=k7.trans vW)
    go_wp2_with fail;refine hK.out _ _ ?_ (fun O=>?_)
    ·exact k8.o _ k7
    clear hK K
    try simp only[Act.put,sA,sB,sC]
    refine tk 16 ?_;refine tk 17 ?_;refine tk 18 ?_;refine tk 19 ?_;refine tk 20 ?_;refine tk 21 ?_;refine tk 22 ?_;refine tk 23 ?_;refine tk 24 ?_;refine tk 25 ?_;refine wpAnyH_done e9 ?_ _;go_wp2_with fail;go_ret;exact⟨ai HZ.o,(TE.o.grow k7).all⟩
 ·have hne:((yn:Int) == (nb:Int))=false:=by simp;omega
  have HZ:=ae (show false=V by rw[Cb.o,decide_eq_false A5];rfl);clear A5;refine wp_region_held_drew (S:=(fun w'=>w'.cell? ⟨w.heap.size,0,none⟩=some (.slice a nb ca)/\w'.cell? ⟨w.heap.size,1,none⟩=some (.slice b nb cb)/\w'.cell? ⟨w.heap.size,2,none⟩=some (.slice c nc cc)/\w'.cell? ⟨w.heap.size+1,2,none⟩=some (.slice ya yn yc)/\w'.cell? ⟨I,0,none⟩=some (.int .i64 G)/\w'.cell? ⟨I,1,none⟩=some (.int .i64 J)/\Ext E w')) e9 ?_ (fun O=>?_)
  ·exact k8.o _ k7
  refine tk 0 ?_;refine tk 1 ?_;refine tk 2 ?_;refine tk 3 ?_;refine tk 4 ?_;refine tk 5 ?_;refine tk 6 ?_;refine tk 7 ?_;refine sk 8 ?_;refine sk 9 ?_;refine sk 10 ?_;refine sk 11 ?_;refine sk 12 ?_;refine sk 13 ?_;refine sk 14 ?_;refine sk 15 ?_;refine tk 16 ?_;refine tk 17 ?_;refine sk 18 ?_;refine tk 19 ?_;refine tk 20 ?_;refine sk 21 ?_;refine sk 22 ?_;refine sk 23 ?_;refine tk 24 ?_;refine tk 25 ?_;refine wpAnyH_done e9 ?_ _;go_wp2_with fail;go_ret;exact⟨ai HZ.o,(TE.o.grow k7).all⟩
theorem sW(h:Bf w a na ca b nb cb c nc cc A B C)(h':GM w xa xn xc ya yn yc ra rn rc r)(ok:vG A B C=true)(hs:r.status=3):
 Calls Tryz.prog 108 #[Al a na ca b nb cb c nc cc,zg r xa xn xc ya yn yc ra rn rc] w fun e w'=>e=.returned (.bool (aG aX A B C r))/\Ext w w':=by
 obtain⟨r1,r2,r3,r4,r5,r6⟩:=co h ok;subst r3;have T0:=ae (show Two w ((w.alloc (aV a nb ca b nb cb c nc cc)).alloc (bH r xa xn xc ya yn yc ra rn rc)) a nb ca b nb cb c nc cc xa xn xc ya yn yc ra rn rc r A B C from⟨Ext.refl _,(h.ext (Ext.alloc _ _)).ext (Ext.alloc _ _),(h'.ext (Ext.alloc _ _)).ext (Ext.alloc _ _)⟩);have xG:=h'.y.l8;have Bt:=h'.y.o0;have xm:=h'.zf.l8;have yI:=h'.zf.o0;have xB:=h.c.l8;have zC:=h.c.o0;have xL:=h.b.l8;have wU:=h.b.o0;have xN:=ae ok;have Lp:=ae (eO r6);have EB:=ae r5;obtain⟨st,Z,rY,O,rv,rp⟩:=r;obtain⟨v1,v2⟩:=rv;simp only at hs;subst hs;have GR:=ae h'.y.hlen;have xi:=ae h.b.hlen;have yw:=ae h.c.hlen;have xE:=ae h'.zf.hlen;have HV:=ae (dO T0.o.lp);rw[ok]at HV;obtain⟨V,hV⟩:=b9 (aG aX A B C ⟨3,Z,rY,O,(v1,v2),rp⟩);rw[<-hV];obtain⟨fv,P9⟩:=b9 (dF A B C.length Z);obtain⟨pv,AP⟩:=b9 (Ax O);obtain⟨gv,BV⟩:=b9 (dd A O (List.replicate nb 0));obtain⟨dx,Ew⟩:=b9 (vg C O)
 have Cb:=ae (show V=(fv&&((decide (rn=nc)&&pv)&&(gv&&Jp dx)))by
  rw[hV,P9,AP,BV,Ew];unfold aG;rw[if_neg e8,if_neg e8,if_pos rfl];simp only;rw[rF,xi.o,yw.o,show O.length=rn from xE.o])
 have HF:=ae (fun(W:World) (t:Two w W a nb ca b nb cb c nc cc xa xn xc ya yn yc ra rn rc ⟨3,Z,rY,O,(v1,v2),rp⟩ A B C)=>jA t.lp xN.o t.lr.x);have HN:=ae (fun(W:World) (t:Two w W a nb ca b nb cb c nc cc xa xn xc ya yn yc ra rn rc ⟨3,Z,rY,O,(v1,v2),rp⟩ A B C)=>iq t.lr.zf);have M5:=gH nb e7;have CQ:=ae (fun(W:World) (t:Two w W a nb ca b nb cb c nc cc xa xn xc ya yn yc ra rn rc ⟨3,Z,rY,O,(v1,v2),rp⟩ A B C)=>oa (b:=b) (nb:=nb) (cb:=cb) (c:=c) (nc:=nc) (cc:=cc) (t.grow (Ext.alloc W (.cells (bh (List.replicate nb 0)) 3))).lp.a (t.grow (Ext.alloc W (.cells (bh (List.replicate nb 0)) 3))).lr.zf (Row.ints (show Row (W.alloc (.cells (bh (List.replicate nb 0)) 3)) W.heap.size 3 (List.replicate nb 0)from heap_alloc_new _ _) e8 (Nat.le_refl nb) e7) (Nat.le_refl _) EB.o);have FI:=ae (fun(W:World) (t:Two w W a nb ca b nb cb c nc cc xa xn xc ya yn yc ra rn rc ⟨3,Z,rY,O,(v1,v2),rp⟩ A B C)=>kO t.lp.c t.lr.zf);simp only[<-P9]at HF;simp only[<-AP]at HN;simp only[<-BV]at CQ;simp only[<-Ew]at FI;obtain⟨x1,x2,LA,Gw⟩:∃y1 y2 DV,vS dx=((y1,y2),DV):=⟨_,_,_,rfl⟩;simp only[Gw]at FI
 have Av:=ae (show Jp dx=(LA&&decide (x1<0))by
  cases dx with
  | none=>simp only[vS]at Gw;cases Gw;rfl
  | some v=>obtain⟨z1,z2⟩:=v;simp only[vS,Option.getD_some,Option.isSome_some,Prod.mk.injEq]at Gw;obtain⟨⟨rfl,rfl⟩,rfl⟩:=Gw;rfl)
 clear h h' ok r4 r5 r6;clear hV P9 AP BV Ew Gw;have AI:((3:Int) == 1)=false:=by decide
 have yX:((3:Int) == 2)=false:=by decide
 go_enter Tryz.func108,Tryz.ntmps108
 obtain⟨p0,p1,p2⟩:=T0.o.p;obtain⟨q0,q1,q2,q3,q4,q5⟩:=T0.o.q;go_wp2_with fail;refine HV.o.mono ?_;rintro e w1 ⟨rfl,hx⟩;have T1:=ae (T0.o.grow hx);clear hx p0 p1 p2 q0 q1 q2 q3 q4 q5;obtain⟨p0,p1,p2⟩:=T1.o.p;obtain⟨q0,q1,q2,q3,q4,q5⟩:=T1.o.q;go_wp2_with fail;refine(FI.o _ T1.o).mono ?_;rintro e w2 ⟨rfl,hx⟩;obtain⟨E,hE⟩:=b9 (w2.alloc (.cells #[.int .i64 x1,.int .i64 x2] 62));obtain⟨I,U⟩:=b9 w2.heap.size;have yD:Ext w2 E:=by rw[hE];exact Ext.alloc _ _
 have TE:=ae ((T1.o.grow hx).grow yD);have BM:=ae (show ag w2 E I x1 x2 by rw[hE,U];exact ag.new (Ext.refl _) _ _);go_upto_region 11 with fail;rw[<-hE,<-U];clear hE yD hx U p0 p1 p2 q0 q1 q2 q3 q4 q5;obtain⟨p0,p1,p2⟩:=TE.o.p;obtain⟨q0,q1,q2,q3,q4,q5⟩:=TE.o.q;have b0:=BM.o.c0;have b1:=BM.o.c1;have k7:Ext E E.drew:=Ext.drew E;have k8:=ae (fun(w':World) (h:Ext E w')=>(⟨h.j9 p0,h.j9 p1,h.j9 p2,h.j9 q1,h.j9 q3,h.j9 b0,h.j9 b1,h⟩:w'.cell? ⟨w.heap.size,0,none⟩=some (.slice a nb ca)/\w'.cell? ⟨w.heap.size,1,none⟩=some (.slice b nb cb)/\w'.cell? ⟨w.heap.size,2,none⟩=some (.slice c nc cc)/\w'.cell? ⟨w.heap.size+1,1,none⟩=some (.slice xa xn xc)/\w'.cell? ⟨w.heap.size+1,3,none⟩=some (.slice ra rn rc)/\w'.cell? ⟨I,0,none⟩=some (.int .i64 x1)/\w'.cell? ⟨I,1,none⟩=some (.int .i64 x2)/\Ext E w'));cases fv
 ·have HZ:=ae (show false=V by rw[Cb.o];rfl);refine wp_region_held_drew (S:=(fun w'=>w'.cell? ⟨w.heap.size,0,none⟩=some (.slice a nb ca)/\w'.cell? ⟨w.heap.size,1,none⟩=some (.slice b nb cb)/\w'.cell? ⟨w.heap.size,2,none⟩=some (.slice c nc cc)/\w'.cell? ⟨w.heap.size+1,1,none⟩=some (.slice xa xn xc)/\w'.cell? ⟨w.heap.size+1,3,none⟩=some (.slice ra rn rc)/\w'.cell? ⟨I,0,none⟩=some (.int .i64 x1)/\w'.cell? ⟨I,1,none⟩=some (.int .i64 x2)/\Ext E w')) e9 ?_ (fun G=>?_)
  ·exact k8.o _ k7
  refine tk 0 ?_;refine tk 1 ?_;refine tk 2 ?_;refine rd (i:=3) (h:=fun K hK=>?_);go_simp
  (go_at_call 177;refine(HF.o _ (TE.o.grow k7)).mono ?_;rintro e w3 ⟨rfl,J⟩;have k7:=k7.trans J)
  go_wp2_with fail;refine hK.out _ _ ?_ (fun G=>?_)
  ·exact k8.o _ k7
  clear hK K
  try simp only[Act.put,sA,sB,sC]
  refine tk 4 ?_;refine sk 5 ?_;refine sk 6 ?_;refine sk 7 ?_;refine sk 8 ?_;refine sk 9 ?_;refine sk 10 ?_;refine sk 11 ?_;refine tk 12 ?_;refine tk 13 ?_;refine sk 14 ?_;refine sk 15 ?_;refine sk 16 ?_;refine tk 17 ?_;refine tk 18 ?_;refine sk 19 ?_;refine sk 20 ?_;refine sk 21 ?_;refine sk 22 ?_;refine sk 23 ?_;refine sk 24 ?_;refine sk 25 ?_;refine sk 26 ?_;refine tk 27 ?_;refine tk 28 ?_;refine sk 29 ?_;refine tk 30 ?_;refine tk 31 ?_;refine sk 32 ?_;refine sk 33 ?_;refine sk 34 ?_;refine tk 35 ?_;refine tk 36 ?_;refine wpAnyH_done e9 ?_ _;go_wp2_with fail;go_ret;exact⟨ai HZ.o,(TE.o.grow k7).all⟩
 ·by_cases zu:rn=nc
  ·have hne:((rn:Int) == (nc:Int))=true:=by simp;omega
   have LX:=ae zu;clear zu;cases pv
   ·have HZ:=ae (show false=V by rw[Cb.o];simp);refine wp_region_held_drew (S:=(fun w'=>w'.cell? ⟨w.heap.size,0,none⟩=some (.slice a nb ca)/\w'.cell? ⟨w.heap.size,1,none⟩=some (.slice b nb cb)/\w'.cell? ⟨w.heap.size,2,none⟩=some (.slice c nc cc)/\w'.cell? ⟨w.heap.size+1,1,none⟩=some (.slice xa xn xc)/\w'.cell? ⟨w.heap.size+1,3,none⟩=some (.slice ra rn rc)/\w'.cell? ⟨I,0,none⟩=some (.int .i64 x1)/\w'.cell? ⟨I,1,none⟩=some (.int .i64 x2)/\Ext E w')) e9 ?_ (fun G=>?_)
    ·exact k8.o _ k7
    refine tk 0 ?_;refine tk 1 ?_;refine tk 2 ?_;refine rd (i:=3) (h:=fun K hK=>?_);go_simp
    (go_at_call 177;refine(HF.o _ (TE.o.grow k7)).mono ?_;rintro e w3 ⟨rfl,J⟩;have k7:=k7.trans J)
    go_wp2_with fail;refine hK.out _ _ ?_ (fun G=>?_)
    ·exact k8.o _ k7
    clear hK K
    try simp only[Act.put,sA,sB,sC]
    refine tk 4 ?_;refine tk 5 ?_;refine tk 6 ?_;refine tk 7 ?_;refine tk 8 ?_;refine tk 9 ?_;refine tk 10 ?_;refine tk 11 ?_;refine tk 12 ?_;refine tk 13 ?_;refine tk 14 ?_;refine tk 15 ?_;refine rd (i:=16) (h:=fun K hK=>?_);go_simp
    (go_at_call 178;refine(HN.o _ (TE.o.grow k7)).mono ?_;rintro e w4 ⟨rfl,Q⟩;have k7:=k7.trans Q)
    go_wp2_with fail;refine hK.out _ _ ?_ (fun G=>?_)
    ·exact k8.o _ k7
    clear hK K
    try simp only[Act.put,sA,sB,sC]
    refine tk 17 ?_;refine tk 18 ?_;refine sk 19 ?_;refine sk 20 ?_;refine sk 21 ?_;refine sk 22 ?_;refine sk 23 ?_;refine sk 24 ?_;refine sk 25 ?_;refine sk 26 ?_;refine tk 27 ?_;refine tk 28 ?_;refine sk 29 ?_;refine tk 30 ?_;refine tk 31 ?_;refine sk 32 ?_;refine sk 33 ?_;refine sk 34 ?_;refine tk 35 ?_;refine tk 36 ?_;refine wpAnyH_done e9 ?_ _;go_wp2_with fail;go_ret;exact⟨ai HZ.o,(TE.o.grow k7).all⟩
   ·cases gv
    ·have HZ:=ae (show false=V by rw[Cb.o];simp);refine wp_region_held_drew (S:=(fun w'=>w'.cell? ⟨w.heap.size,0,none⟩=some (.slice a nb ca)/\w'.cell? ⟨w.heap.size,1,none⟩=some (.slice b nb cb)/\w'.cell? ⟨w.heap.size,2,none⟩=some (.slice c nc cc)/\w'.cell? ⟨w.heap.size+1,1,none⟩=some (.slice xa xn xc)/\w'.cell? ⟨w.heap.size+1,3,none⟩=some (.slice ra rn rc)/\w'.cell? ⟨I,0,none⟩=some (.int .i64 x1)/\w'.cell? ⟨I,1,none⟩=some (.int .i64 x2)/\Ext E w')) e9 ?_ (fun G=>?_)
     ·exact k8.o _ k7
     refine tk 0 ?_;refine tk 1 ?_;refine tk 2 ?_;refine rd (i:=3) (h:=fun K hK=>?_);go_simp
     (go_at_call 177;refine(HF.o _ (TE.o.grow k7)).mono ?_;rintro e w3 ⟨rfl,J⟩;have k7:=k7.trans J)
     go_wp2_with fail;refine hK.out _ _ ?_ (fun G=>?_)
     ·exact k8.o _ k7
     clear hK K
     try simp only[Act.put,sA,sB,sC]
     refine tk 4 ?_;refine tk 5 ?_;refine tk 6 ?_;refine tk 7 ?_;refine tk 8 ?_;refine tk 9 ?_;refine tk 10 ?_;refine tk 11 ?_;refine tk 12 ?_;refine tk 13 ?_;refine tk 14 ?_;refine tk 15 ?_;refine rd (i:=16) (h:=fun K hK=>?_);go_simp
     (go_at_call 178;refine(HN.o _ (TE.o.grow k7)).mono ?_;rintro e w4 ⟨rfl,Q⟩;have k7:=k7.trans Q)
     go_wp2_with fail;refine hK.out _ _ ?_ (fun G=>?_)
     ·exact k8.o _ k7
     clear hK K
     try simp only[Act.put,sA,sB,sC]
     refine tk 17 ?_;refine tk 18 ?_;refine tk 19 ?_;refine tk 20 ?_;refine tk 21 ?_;refine tk 22 ?_;refine tk 23 ?_;refine tk 24 ?_;have TG:=ae (TE.o.grow k7);have OE:=k7;have k7:=OE.trans (Ext.alloc w4 (.cells (bh (List.replicate nb 0)) 3));refine rd (i:=25) (h:=fun K hK=>?_);go_simp;refine hK.out _ _ ?_ (fun G=>?_)
     ·exact k8.o _ k7
     clear hK K
     try simp only[Act.put,sA,sB,sC]
     refine rd (i:=26) (h:=fun K hK=>?_);go_simp
     (go_at_call 179;refine(CQ.o _ TG.o).mono ?_;rintro e w5 ⟨rfl,wX⟩;have k7:=k7.trans wX)
     go_wp2_with fail;refine hK.out _ _ ?_ (fun G=>?_)
     ·exact k8.o _ k7
     clear hK K
     try simp only[Act.put,sA,sB,sC]
     refine tk 27 ?_;refine tk 28 ?_;refine sk 29 ?_;refine tk 30 ?_;refine tk 31 ?_;refine sk 32 ?_;refine sk 33 ?_;refine sk 34 ?_;refine tk 35 ?_;refine tk 36 ?_;refine wpAnyH_done e9 ?_ _;go_wp2_with fail;go_ret;exact⟨ai HZ.o,(TE.o.grow k7).all⟩
    ·cases LA
     ·have HZ:=ae (show false=V by rw[Cb.o,Av.o,decide_eq_true LX.o];simp);refine wp_region_held_drew (S:=(fun w'=>w'.cell? ⟨w.heap.size,0,none⟩=some (.slice a nb ca)/\w'.cell? ⟨w.heap.size,1,none⟩=some (.slice b nb cb)/\w'.cell? ⟨w.heap.size,2,none⟩=some (.slice c nc cc)/\w'.cell? ⟨w.heap.size+1,1,none⟩=some (.slice xa xn xc)/\w'.cell? ⟨w.heap.size+1,3,none⟩=some (.slice ra rn rc)/\w'.cell? ⟨I,0,none⟩=some (.int .i64 x1)/\w'.cell? ⟨I,1,none⟩=some (.int .i64 x2)/\Ext E w')) e9 ?_ (fun G=>?_)
      ·exact k8.o _ k7
      refine tk 0 ?_;refine tk 1 ?_;refine tk 2 ?_;refine rd (i:=3) (h:=fun K hK=>?_);go_simp
      (go_at_call 177;refine(HF.o _ (TE.o.grow k7)).mono ?_;rintro e w3 ⟨rfl,J⟩;have k7:=k7.trans J)
      go_wp2_with fail;refine hK.out _ _ ?_ (fun G=>?_)
      ·exact k8.o _ k7
      clear hK K
      try simp only[Act.put,sA,sB,sC]
      refine tk 4 ?_;refine tk 5 ?_;refine tk 6 ?_;refine tk 7 ?_;refine tk 8 ?_;refine tk 9 ?_;refine tk 10 ?_;refine tk 11 ?_;refine tk 12 ?_;refine tk 13 ?_;refine tk 14 ?_;refine tk 15 ?_;refine rd (i:=16) (h:=fun K hK=>?_);go_simp
      (go_at_call 178;refine(HN.o _ (TE.o.grow k7)).mono ?_;rintro e w4 ⟨rfl,Q⟩;have k7:=k7.trans Q)
      go_wp2_with fail;refine hK.out _ _ ?_ (fun G=>?_)
      ·exact k8.o _ k7
      clear hK K
      try simp only[Act.put,sA,sB,sC]
      refine tk 17 ?_;refine tk 18 ?_;refine tk 19 ?_;refine tk 20 ?_;refine tk 21 ?_;refine tk 22 ?_;refine tk 23 ?_;refine tk 24 ?_;have TG:=ae (TE.o.grow k7);have OE:=k7;have k7:=OE.trans (Ext.alloc w4 (.cells (bh (List.replicate nb 0)) 3));refine rd (i:=25) (h:=fun K hK=>?_);go_simp;refine hK.out _ _ ?_ (fun G=>?_)
      ·exact k8.o _ k7
      clear hK K
      try simp only[Act.put,sA,sB,sC]
      refine rd (i:=26) (h:=fun K hK=>?_);go_simp
      (go_at_call 179;refine(CQ.o _ TG.o).mono ?_;rintro e w5 ⟨rfl,wX⟩;have k7:=k7.trans wX)
      go_wp2_with fail;refine hK.out _ _ ?_ (fun G=>?_)
      ·exact k8.o _ k7
      clear hK K
      try simp only[Act.put,sA,sB,sC]
      refine tk 27 ?_;refine tk 28 ?_;refine tk 29 ?_;refine tk 30 ?_;refine tk 31 ?_;refine sk 32 ?_;refine sk 33 ?_;refine sk 34 ?_;refine tk 35 ?_;refine tk 36 ?_;refine wpAnyH_done e9 ?_ _;go_wp2_with fail;go_ret;exact⟨ai HZ.o,(TE.o.grow k7).all⟩
     ·have HZ:=ae (show decide (x1<0)=V by rw[Cb.o,Av.o,decide_eq_true LX.o];simp);refine wp_region_held_drew (S:=(fun w'=>w'.cell? ⟨w.heap.size,0,none⟩=some (.slice a nb ca)/\w'.cell? ⟨w.heap.size,1,none⟩=some (.slice b nb cb)/\w'.cell? ⟨w.heap.size,2,none⟩=some (.slice c nc cc)/\w'.cell? ⟨w.heap.size+1,1,none⟩=some (.slice xa xn xc)/\w'.cell? ⟨w.heap.size+1,3,none⟩=some (.slice ra rn rc)/\w'.cell? ⟨I,0,none⟩=some (.int .i64 x1)/\w'.cell? ⟨I,1,none⟩=some (.int .i64 x2)/\Ext E w')) e9 ?_ (fun G=>?_)
      ·exact k8.o _ k7
      refine tk 0 ?_;refine tk 1 ?_;refine tk 2 ?_;refine rd (i:=3) (h:=fun K hK=>?_);go_simp
      (go_at_call 177;refine(HF.o _ (TE.o.grow k7)).mono ?_;rintro e w3 ⟨rfl,J⟩;have k7:=k7.trans J)
      go_wp2_with fail;refine hK.out _ _ ?_ (fun G=>?_)
      ·exact k8.o _ k7
      clear hK K
      try simp only[Act.put,sA,sB,sC]
      refine tk 4 ?_;refine tk 5 ?_;refine tk 6 ?_;refine tk 7 ?_;refine tk 8 ?_;refine tk 9 ?_;refine tk 10 ?_;refine tk 11 ?_;refine tk 12 ?_;refine tk 13 ?_;refine tk 14 ?_;refine tk 15 ?_;refine rd (i:=16) (h:=fun K hK=>?_);go_simp
      (go_at_call 178;refine(HN.o _ (TE.o.grow k7)).mono ?_;rintro e w4 ⟨rfl,Q⟩;have k7:=k7.trans Q)
      go_wp2_with fail;refine hK.out _ _ ?_ (fun G=>?_)
      ·exact k8.o _ k7
      clear hK K
      try simp only[Act.put,sA,sB,sC]
      refine tk 17 ?_;refine tk 18 ?_;refine tk 19 ?_;refine tk 20 ?_;refine tk 21 ?_;refine tk 22 ?_;refine tk 23 ?_;refine tk 24 ?_;have TG:=ae (TE.o.grow k7);have OE:=k7;have k7:=OE.trans (Ext.alloc w4 (.cells (bh (List.replicate nb 0)) 3));refine rd (i:=25) (h:=fun K hK=>?_);go_simp;refine hK.out _ _ ?_ (fun G=>?_)
      ·exact k8.o _ k7
      clear hK K
      try simp only[Act.put,sA,sB,sC]
      refine rd (i:=26) (h:=fun K hK=>?_);go_simp
      (go_at_call 179;refine(CQ.o _ TG.o).mono ?_;rintro e w5 ⟨rfl,wX⟩;have k7:=k7.trans wX)
      go_wp2_with fail;refine hK.out _ _ ?_ (fun G=>?_)
      ·exact k8.o _ k7
      clear hK K
      try simp only[Act.put,sA,sB,sC]
      refine tk 27 ?_;refine tk 28 ?_;refine tk 29 ?_;refine tk 30 ?_;refine tk 31 ?_;refine tk 32 ?_;refine tk 33 ?_;refine tk 34 ?_;refine tk 35 ?_;refine tk 36 ?_;refine wpAnyH_done e9 ?_ _;go_wp2_with fail;go_ret;exact⟨ai HZ.o,(TE.o.grow k7).all⟩
  ·have hne:((rn:Int) == (nc:Int))=false:=by simp;omega
   have HZ:=ae (show false=V by rw[Cb.o,decide_eq_false zu];rfl);clear zu;refine wp_region_held_drew (S:=(fun w'=>w'.cell? ⟨w.heap.size,0,none⟩=some (.slice a nb ca)/\w'.cell? ⟨w.heap.size,1,none⟩=some (.slice b nb cb)/\w'.cell? ⟨w.heap.size,2,none⟩=some (.slice c nc cc)/\w'.cell? ⟨w.heap.size+1,1,none⟩=some (.slice xa xn xc)/\w'.cell? ⟨w.heap.size+1,3,none⟩=some (.slice ra rn rc)/\w'.cell? ⟨I,0,none⟩=some (.int .i64 x1)/\w'.cell? ⟨I,1,none⟩=some (.int .i64 x2)/\Ext E w')) e9 ?_ (fun G=>?_)
   ·exact k8.o _ k7
   refine tk 0 ?_;refine tk 1 ?_;refine tk 2 ?_;refine rd (i:=3) (h:=fun K hK=>?_);go_simp
   (go_at_call 177;refine(HF.o _ (TE.o.grow k7)).mono ?_;rintro e w3 ⟨rfl,J⟩;have k7:=k7.trans J)
   go_wp2_with fail;refine hK.out _ _ ?_ (fun G=>?_)
   ·exact k8.o _ k7
   clear hK K
   try simp only[Act.put,sA,sB,sC]
   refine tk 4 ?_;refine tk 5 ?_;refine tk 6 ?_;refine tk 7 ?_;refine tk 8 ?_;refine tk 9 ?_;refine tk 10 ?_;refine tk 11 ?_;refine tk 12 ?_;refine tk 13 ?_;refine sk 14 ?_;refine sk 15 ?_;refine sk 16 ?_;refine tk 17 ?_;refine tk 18 ?_;refine sk 19 ?_;refine sk 20 ?_;refine sk 21 ?_;refine sk 22 ?_;refine sk 23 ?_;refine sk 24 ?_;refine sk 25 ?_;refine sk 26 ?_;refine tk 27 ?_;refine tk 28 ?_;refine sk 29 ?_;refine tk 30 ?_;refine tk 31 ?_;refine sk 32 ?_;refine sk 33 ?_;refine sk 34 ?_;refine tk 35 ?_;refine tk 36 ?_;refine wpAnyH_done e9 ?_ _;go_wp2_with fail;go_ret;exact⟨ai HZ.o,(TE.o.grow k7).all⟩
theorem uA(h:Bf w a na ca b nb cb c nc cc A B C)(h':GM w xa xn xc ya yn yc ra rn rc r)(ok:vG A B C=true):
 Calls Tryz.prog 108 #[Al a na ca b nb cb c nc cc,zg r xa xn xc ya yn yc ra rn rc] w fun e w'=>e=.returned (.bool (aG aX A B C r))/\Ext w w':=by
 by_cases h1:r.status=1
 ·exact sU h h' ok h1
 by_cases h2:r.status=2
 ·exact sV h h' ok h2
 by_cases h3:r.status=3
 ·exact sW h h' ok h3
 have HE:=ae (show aG aX A B C r=false by unfold aG;rw[if_neg h1,if_neg h2,if_neg h3]);have E:=ae (show Two w ((w.alloc (aV a na ca b nb cb c nc cc)).alloc (bH r xa xn xc ya yn yc ra rn rc)) a na ca b nb cb c nc cc xa xn xc ya yn yc ra rn rc r A B C from⟨Ext.refl _,(h.ext (Ext.alloc _ _)).ext (Ext.alloc _ _),(h'.ext (Ext.alloc _ _)).ext (Ext.alloc _ _)⟩);have HV:=ae (dO E.o.lp);rw[ok]at HV;obtain⟨st,rX,rY,rr,U,rp⟩:=r;obtain⟨v1,v2⟩:=U;simp only at h1 h2 h3;have e1:(st == 1)=false:=by simp;omega
 have e2:(st == 2)=false:=by simp;omega
 have e3:(st == 3)=false:=by simp;omega
 clear h h' h1 h2 h3;go_enter Tryz.func108,Tryz.ntmps108
 obtain⟨p0,p1,p2⟩:=E.o.p;obtain⟨Q,q1,O,K,J,I⟩:=E.o.q;go_wp2_with fail;refine HV.o.mono ?_;rintro e w1 ⟨rfl,hx⟩;have G:=ae (E.o.grow hx);clear hx p0 p1 p2 Q q1 O K J I;obtain⟨p0,p1,p2⟩:=G.o.p;obtain⟨Q,q1,O,K,J,I⟩:=G.o.q;go_wp2_with fail;go_ret;exact⟨ai HE.o.symm,G.o.all⟩
end
end Go.Proofs.YtdadoignenffgaaGreatDoor
