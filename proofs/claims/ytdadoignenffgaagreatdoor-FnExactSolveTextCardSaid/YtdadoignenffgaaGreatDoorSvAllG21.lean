import Derived.Test.YtdadoignenffgaaGreatDoorSvAllG20
set_option linter.unusedVariables false
set_option linter.unusedSimpArgs false
namespace Go.Proofs.YtdadoignenffgaaGreatDoor
variable{A:j5}{xa:j6}{xn Cg:Nat}{W:World}
set_option maxHeartbeats 16000000
set_option maxRecDepth 100000
open Go.RowKit
theorem fe{r:j7}(h:∀x∈r,-5000<=x/\x<=5000):dQ r=ar r:=by
 unfold dQ Ba;rw[if_pos];rw[List.all_eq_true];intro x hx;have:=h x hx;simp[r'];omega
def fj(A:j5)(x:j4)(B:j7)(i:Nat):Bool:=decide (vg (ar (A[i]?.getD [])) x=some (B[i]?.getD 0,1))
theorem ni(A:j5)(x:j4)(B:j7):dd A x B=(List.range A.length).all (fj A x B):=rfl
theorem rq{w:World}{a:j6}{na ca:Nat}{b:j6}{nb cb:Nat}{c:j6}{nc cc:Nat}(h:dV w a na ca A){X:j4}(hX:Rats w xa xn Cg X)
 {da:j6} {Q KM:Nat} {D:j7} (U:Ints w da Q KM D) (Ni:na<=Q) (o7:∀i,i<na->(A[i]?.getD []).length<=70/\∀x∈A[i]?.getD [],-5000<=x/\x<=5000) :
 Calls Tryz.prog 200 #[Al a na ca b nb cb c nc cc,.slice xa xn Cg,.slice da Q KM] w fun e w'=>e=.returned (.bool (dd A X D))/\Ext w w':=by
 have uS:=Ext.alloc w (aV a na ca b nb cb c nc cc);have uV:=ae uS;have HI:=ae (h.ext uS);have Av:=ae (hX.ext uS);have Bk:=ae (U.ext uS);have zD:=ae o7;have Iu:=h.l8;have It:=h.o0;have D1:=U.l8;have Nk:=U.o0;have zk:=ae h.hlen;have HE:=ae (show dd A X D=(List.range na).all (fj A X D)by rw[ni,zk.o]);clear h hX U uS o7;go_enter Tryz.func200,Tryz.ntmps200
 go_wp2_with fail
 go_loopg [14] na (fun gk ii wr=>∃k:Nat,b7 (gk+k=na)/\ii=.int .i64 (k:Int)/\b7 ((List.range k).all (fj A X D)=true)/\b7 (Ext (w.alloc (aV a na ca b nb cb c nc cc)) wr))
 case atStart=>exact⟨0,ae e7,rfl,ae rfl,ae (Ext.refl _)⟩
 case round =>
  obtain⟨g1,o6⟩:=b9 gk;subst o6;obtain⟨o8,o4⟩:=b9 wr;subst o4;obtain⟨k,HK,rfl,HA,HX⟩:=hrel;have hsz:=HX.o.size;rw[World.size_alloc]at hsz;by_cases hlt:k<na
  ·obtain⟨gb,D4,ra,rn,rc,P8,Nc,o7⟩:=(HI.o.ext HX.o).at hlt;subst P8;have zu:rn<=70:=by rw[<-o7.hlen];exact(zD.o k hlt).1
   have Ux:=ae (gV o7 e7);rw[fe (zD.o k hlt).2]at Ux;clear o7;go_wp2_with fail;refine Ux.o.mono ?_;rintro e w2 ⟨⟨v2,rfl,AR⟩,vL⟩;obtain⟨a2,n2,c2,rfl,Eu⟩:=AR.var;have X2:=ae (HX.o.trans vL);have HD:=ae (fc AR.uZ (Av.o.ext X2.o));clear AR vL Eu;obtain⟨dv,As⟩:=b9 (vg (ar (A[k]?.getD [])) X);have HG:=ae (show fj A X D k=decide (dv=some (D[k]?.getD 0,1))by rw[As];rfl);rw[<-As]at HD;clear As;obtain⟨db,Dq,Tz,O⟩:=(Bk.o.ext X2.o).at (show k<Q by omega);subst Tz;obtain⟨d,hd⟩:=b9 (D[k]?.getD 0);rw[<-hd]at HG O;clear hd;cases dv with
   | none =>
     rw[show vS none=((0,0),false)from rfl]at HD;have HF:=ae (show dd A X D=false by rw[HE.o];exact cX hlt (by rw[HG.o];rfl));go_wp2_with fail;refine HD.o.mono ?_;rintro e w3 ⟨rfl,K⟩;have X3:=ae (X2.o.trans K);clear K O;obtain⟨E,G⟩:=b9 (w3.alloc (.cells #[.int .i64 0,.int .i64 0] 62));have XE:=ae (show Ext w3 E by rw[G];exact Ext.alloc _ _);go_upto_region 5 with fail;rw[<-G];clear G;have k7:Ext E E.drew:=Ext.drew E;refine wp_region_held_drew (S:=(fun w'=>Ext E w')) e9 ?_ (fun k9=>?_)
     ·exact k7
     refine tk 0 ?_;refine tk 1 ?_;refine tk 2 ?_;refine sk 3 ?_;refine sk 4 ?_;refine sk 5 ?_;refine sk 6 ?_;refine sk 7 ?_;refine sk 8 ?_;refine sk 9 ?_;refine tk 10 ?_;refine wpAnyH_done e9 ?_ _;go_wp2_with fail;go_ret;exact⟨ai HF.o.symm,((uV.o.trans X3.o).trans XE.o).trans k7⟩
   | some r =>
     obtain⟨J,I⟩:=r;rw[show vS (some (J,I))=((J,I),true)from rfl]at HD;go_wp2_with fail;refine HD.o.mono ?_;rintro e w3 ⟨rfl,K⟩;replace O:=K.j9 O;have X3:=ae (X2.o.trans K);clear K;obtain⟨E,G⟩:=b9 (w3.alloc (.cells #[.int .i64 J,.int .i64 I] 62));have Z:Ext w3 E:=by rw[G];exact Ext.alloc _ _
     have XE:=ae (X3.o.trans Z);have e0:=Z.j9 O;have b0:E.cell? ⟨w3.heap.size,0,none⟩=some (.int .i64 J):=by rw[G];simp
     have b1:E.cell? ⟨w3.heap.size,1,none⟩=some (.int .i64 I):=by rw[G];simp
     go_upto_region 5 with fail;rw[<-G];clear G O Z;have wH:(k:Int)<(Q:Int):=by omega
     have BU:(0:Int)<=(k:Int):=by omega
     have k7:Ext E E.drew:=Ext.drew E;have k8:=ae (fun(w':World) (h:Ext E w')=>(⟨h.j9 e0,h.j9 b0,h.j9 b1,h⟩:w'.cell? ⟨db,Dq+k,none⟩=some (.int .i64 d)/\w'.cell? ⟨w3.heap.size,0,none⟩=some (.int .i64 J)/\w'.cell? ⟨w3.heap.size,1,none⟩=some (.int .i64 I)/\Ext E w'));have Ia:=ae (show fj A X D k=((J == d)&&(I == 1))by rw[HG.o,Bool.eq_iff_iff];simp);cases vO:(J == d)
     all_goals
      cases xG:(I == 1)
     all_goals
      have H':=ae Ia.o;rw[vO,xG]at H'
      go_region_held3 (fun w'=>w'.cell? ⟨db,Dq+k,none⟩=some (.int .i64 d)/\w'.cell? ⟨w3.heap.size,0,none⟩=some (.int .i64 J)/\w'.cell? ⟨w3.heap.size,1,none⟩=some (.int .i64 I)/\Ext E w')
       (first
         | with_reducible exact k8.o _ k7)
       (first
         | (go_at_call 71
            (with_reducible refine(cv _ _).mono ?_)
            rintro e w5 ⟨rfl,wX⟩
            have k7:Ext E w5:=k7.trans wX)
         | fail)
      have X5:=ae (XE.o.trans k7);clear k7
     all_goals try(
      have HF:=ae (show dd A X D=false by rw[HE.o];exact cX hlt (by rw[H'.o];rfl));go_wp2_with fail;go_ret
      exact⟨ai HF.o.symm,uV.o.trans X5.o⟩)
     have HT:=ae (show(List.range (k+1)).all (fj A X D)=true by rw[fK,HA.o,H'.o];rfl);go_wp2_with fail
     go_roundg (g1-1)
     case measure=>have:=HK.o;omega
     case rel=>exact⟨k+1,ae (j1 HK.o),by go_num,HT,X5⟩
  ·have vZ:na=k:=by have:=HK.o;omega
   subst vZ;go_wp2_with fail;go_ret;exact⟨ai (by rw[HE.o,HA.o]),uV.o.trans HX.o⟩
section
variable{w:World}{a:j6}{na ca:Nat}{b:j6}{nb cb:Nat}{c:j6}{nc cc:Nat}{A:j5}{B:j7}{C:j4}
theorem co(h:Bf w a na ca b nb cb c nc cc A B C)(ok:vG A B C=true):nc<=70/\na<=8/\nb=na/\(∀i,i<na->(A[i]?.getD []).length=nc)/\(∀i,i<na->(A[i]?.getD []).length<=70/\∀x∈A[i]?.getD [],-5000<=x/\x<=5000)/\∀x∈B,-5000<=x/\x<=5000:=by
 have l1:=h.a.hlen;have l2:=h.b.hlen;have l3:=h.c.hlen;rw[iA]at ok;simp only[Bool.and_eq_true,decide_eq_true_eq,List.all_eq_true,dJ,r']at ok;obtain⟨h1,h2,h3,h4,h5,h6⟩:=ok;have key:∀i,i<na->(A[i]?.getD []).length=nc/\∀x∈A[i]?.getD [],-5000<=x/\x<=5000:=by
  intro i hi;rw[List.getElem?_eq_getElem e7,Option.getD_some];have:=h5 _ (List.getElem_mem (l:=A) (n:=i) e7);exact⟨by omega,this.2⟩
 exact⟨by omega,by omega,by omega,fun i hi=>(key i hi).1,fun i hi=>⟨by have:=(key i hi).1;omega,(key i hi).2⟩,h6⟩
theorem js(h:Bf w a na ca b nb cb c nc cc A B C){xa:j6}{xn Cg:Nat}{X:j4}(hX:Rats w xa xn Cg X):
 Calls Tryz.prog 196 #[Al a na ca b nb cb c nc cc,.slice xa xn Cg] w fun e w'=>e=.returned (.bool (vG A B C&&dF A B C.length X))/\Ext w w':=by
 have uS:=Ext.alloc w (aV a na ca b nb cb c nc cc);have uV:=ae uS;have H:=ae (h.ext uS);have Av:=ae (hX.ext uS);have yw:=ae h.c.hlen;have zk:=ae h.a.hlen;have xB:=h.c.l8;have zC:=h.c.o0;have HO:=ae (fun ok=>co h ok);have HV:=ae (ee H.o);clear h hX uS;cases wj:vG A B C
 ·rw[wj]at HV;clear wj;go_enter Tryz.func196,Tryz.ntmps196
  go_wp2_with fail;refine HV.o.mono ?_;rintro e w1 ⟨rfl,hx⟩;have X1:=ae (uV.o.trans hx);clear hx;go_wp2_with fail;go_ret;exact⟨rfl,X1.o⟩
 ·rw[wj]at HV;have HR:=ae (HO.o wj);obtain⟨r1,r2,J,_,_,_⟩:=HO.o wj;subst J;have HN:=ae (fun(w':World) (hx:Ext (w.alloc (aV a nb ca b nb cb c nc cc)) w')=>jb (Av.o.ext hx) nc);have HE:=ae (show(true&&dF A B C.length X)=((decide (X.length=nc)&&Ax X)&&dd A X B)by unfold dF;rw[yw.o,Bool.true_and,Bool.and_assoc]);clear wj;cases hn:(decide (X.length=nc)&&Ax X)
  ·rw[hn]at HN HE;clear hn;go_enter Tryz.func196,Tryz.ntmps196
   go_wp2_with fail;refine HV.o.mono ?_;rintro e w1 ⟨rfl,hx⟩;have E:w1.cell? ⟨w.heap.size,2,none⟩=some (.slice c nc cc):=hx.j9 e8;have X1:=ae hx;clear hx;go_wp2_with fail;refine(HN.o _ X1.o).mono ?_;rintro e w2 ⟨rfl,hx⟩;have X2:=ae ((uV.o.trans X1.o).trans hx);clear hx;go_wp2_with fail;go_ret;exact⟨ai (by rw[HE.o];rfl),X2.o⟩
  ·rw[hn]at HN HE;clear hn;go_enter Tryz.func196,Tryz.ntmps196
   go_wp2_with fail;refine HV.o.mono ?_;rintro e w1 ⟨rfl,hx⟩;have I:w1.cell? ⟨w.heap.size,0,none⟩=some (.slice a nb ca):=hx.j9 e8;have G:w1.cell? ⟨w.heap.size,1,none⟩=some (.slice b nb cb):=hx.j9 e8;have E:w1.cell? ⟨w.heap.size,2,none⟩=some (.slice c nc cc):=hx.j9 e8;have X1:=ae hx;clear hx;go_wp2_with fail;refine(HN.o _ X1.o).mono ?_;rintro e w2 ⟨rfl,hx⟩;replace I:=hx.j9 I;replace G:=hx.j9 G;replace E:=hx.j9 E;have X2:=ae (X1.o.trans hx);clear hx;have HG:=ae (rq (b:=b) (nb:=nb) (cb:=cb) (c:=c) (nc:=nc) (cc:=cc) (H.o.ext X2.o).a (Av.o.ext X2.o) (H.o.ext X2.o).b (Nat.le_refl _) HR.o.2.2.2.2.1);go_wp2_with fail;refine HG.o.mono ?_;rintro e w3 ⟨rfl,hx⟩;have X3:=ae ((uV.o.trans X2.o).trans hx);clear hx;go_wp2_with fail;go_ret;exact⟨ai (by rw[HE.o];rfl),X3.o⟩
end
structure GM(w:World)(xa:j6)(xn xc:Nat)(ya:j6)(yn yc:Nat)(ra:j6)(rn rc:Nat)(r:yu):Prop where
 x:Rats w xa xn xc r.X
 y:Rats w ya yn yc r.Y
 zf:Rats w ra rn rc r.zf
theorem GM.ext{w w':World}{xc:Nat}{ya:j6}{yn yc:Nat}{ra:j6}{rn rc:Nat}{r:yu}(h:GM w xa xn xc ya yn yc ra rn rc r)(hx:Ext w w'):GM w' xa xn xc ya yn yc ra rn rc r:=⟨h.x.ext hx,h.y.ext hx,h.zf.ext hx⟩
abbrev zg(r:yu)(xa:j6)(xn xc:Nat)(ya:j6)(yn yc:Nat)(ra:j6)(rn rc:Nat):Value :=
 .agg #[.int .i64 r.status,.slice xa xn xc,.slice ya yn yc,.slice ra rn rc,.int .i64 r.value.1,.int .i64 r.value.2,.int .i64 r.FP]
abbrev bH(r:yu)(xa:j6)(xn xc:Nat)(ya:j6)(yn yc:Nat)(ra:j6)(rn rc:Nat):Obj :=
 .cells #[.int .i64 r.status,.slice xa xn xc,.slice ya yn yc,.slice ra rn rc,.int .i64 r.value.1,.int .i64 r.value.2,.int .i64 r.FP] 72
theorem fZ(h:∀i,i<A.length->∀x∈A[i]?.getD [],-5000<=x/\x<=5000)(j:Nat):∀x∈vJ A j,-5000<=x/\x<=5000:=by
 intro x hx;obtain⟨r,hr,rfl⟩:=List.mem_map.1 hx;obtain⟨i,hi,rfl⟩:=List.mem_iff_getElem.1 hr;by_cases E:j<A[i].length
 ·rw[List.getElem?_eq_getElem E];exact h i hi _ (by rw[List.getElem?_eq_getElem hi];exact List.getElem_mem _)
 ·rw[List.getElem?_eq_none e7];simp
theorem kx(A:j5)(j:Nat):(vJ A j).length=A.length:=by simp[vJ]
theorem qw{Y C:j4}{j:Nat}(h:vg Y (ar (vJ A j))=none):am A Y C j=false:=by unfold am;rw[h]
theorem qx{Y C:j4}{j:Nat}{v c:j8}(h:vg Y (ar (vJ A j))=some v)(hc:C[j]?.getD (0,0)=c):am A Y C j=((vD c v).2&&decide (0<=(vD c v).1.1)):=by unfold am;rw[h,hc]
def iR(x y:Option (Int×Int))(v:j8):Bool:=match x,y with|some x,some y=>decide (x=y)&&decide (x=v)|_,_=>false
theorem py(B:j7)(C:j4)(r:yu):gm B C r=iR (vg C r.X) (vg r.Y (ar B)) r.value:=rfl
theorem iS(x:Option (Int×Int))(v:j8):iR none x v=false/\iR x none v=false:=by cases x<;>exact⟨rfl,rfl⟩
theorem lO(x1 x2 G E v1 v2:Int):iR (some (x1,x2)) (some (G,E)) (v1,v2)=(((x1 == G)&&(x2 == E))&&((x1 == v1)&&(x2 == v2))):=by
 simp only[iR];rw[Bool.eq_iff_iff];simp
section
variable{w:World}{a:j6}{na ca:Nat}{b:j6}{nb cb:Nat}{c:j6}{nc cc:Nat}{A:j5}{B:j7}{C:j4}
 {xa:j6} {xn xc:Nat} {ya:j6} {yn yc:Nat} {ra:j6} {rn rc:Nat} {r:yu}
structure Two(w W:World)(a:j6)(na ca:Nat)(b:j6)(nb cb:Nat)(c:j6)(nc cc:Nat)(xa:j6)(xn xc:Nat)(ya:j6)(yn yc:Nat)(ra:j6)(rn rc:Nat)(r:yu)(A:j5)(B:j7)(C:j4):Prop where
 ext:Ext ((w.alloc (aV a na ca b nb cb c nc cc)).alloc (bH r xa xn xc ya yn yc ra rn rc)) W
 lp:Bf W a na ca b nb cb c nc cc A B C
 lr:GM W xa xn xc ya yn yc ra rn rc r
theorem Two.grow{W E:World}(h:Two w W a na ca b nb cb c nc cc xa xn xc ya yn yc ra rn rc r A B C)(hx:Ext W E):Two w E a na ca b nb cb c nc cc xa xn xc ya yn yc ra rn rc r A B C:=⟨h.ext.trans hx,h.lp.ext hx,h.lr.ext hx⟩
theorem Two.all{W:World}(h:Two w W a na ca b nb cb c nc cc xa xn xc ya yn yc ra rn rc r A B C):Ext w W:=((Ext.alloc _ _).trans (Ext.alloc _ _)).trans h.ext
theorem Two.p{W:World}(h:Two w W a na ca b nb cb c nc cc xa xn xc ya yn yc ra rn rc r A B C):W.cell? ⟨w.heap.size,0,none⟩=some (.slice a na ca)/\W.cell? ⟨w.heap.size,1,none⟩=some (.slice b nb cb)/\W.cell? ⟨w.heap.size,2,none⟩=some (.slice c nc cc) :=
 ⟨h.ext.j9 e8,h.ext.j9 e8,h.ext.j9 e8⟩
theorem Two.q{W:World}(h:Two w W a na ca b nb cb c nc cc xa xn xc ya yn yc ra rn rc r A B C):W.cell? ⟨w.heap.size+1,0,none⟩=some (.int .i64 r.status)/\W.cell? ⟨w.heap.size+1,1,none⟩=some (.slice xa xn xc)/\W.cell? ⟨w.heap.size+1,2,none⟩=some (.slice ya yn yc)/\W.cell? ⟨w.heap.size+1,3,none⟩=some (.slice ra rn rc)/\W.cell? ⟨w.heap.size+1,4,none⟩=some (.int .i64 r.value.1)/\W.cell? ⟨w.heap.size+1,5,none⟩=some (.int .i64 r.value.2) :=
 ⟨h.ext.j9 e8,h.ext.j9 e8,h.ext.j9 e8,h.ext.j9 e8,h.ext.j9 e8,h.ext.j9 e8⟩
theorem sF(h:Bf w a na ca b nb cb c nc cc A B C)(h':GM w xa xn xc ya yn yc ra rn rc r)(ok:vG A B C=true)(hs:r.status=1):
 Calls Tryz.prog 130 #[Al a na ca b nb cb c nc cc,zg r xa xn xc ya yn yc ra rn rc] w fun e w'=>e=.returned (.bool (aG am A B C r))/\Ext w w':=by
 obtain⟨r1,r2,r3,r4,r5,r6⟩:=co h ok;subst r3;have T0:=ae (show Two w ((w.alloc (aV a nb ca b nb cb c nc cc)).alloc (bH r xa xn xc ya yn yc ra rn rc)) a nb ca b nb cb c nc cc xa xn xc ya yn yc ra rn rc r A B C from⟨Ext.refl _,(h.ext (Ext.alloc _ _)).ext (Ext.alloc _ _),(h'.ext (Ext.alloc _ _)).ext (Ext.alloc _ _)⟩);have xG:=h'.y.l8;have Bt:=h'.y.o0;have xB:=h.c.l8;have zC:=h.c.o0;have xL:=h.b.l8;have wU:=h.b.o0;have yw:=ae h.c.hlen;have xi:=ae h.b.hlen;have zk:=ae h.a.hlen;have GR:=ae h'.y.hlen;have HE:=ae (show aG am A B C r=(dF A B C.length r.X&&(decide (r.Y.length=B.length)&&((List.range C.length).all (am A r.Y C)&&gm B C r)))by unfold aG;rw[if_pos hs]);have zS:=ae r4;have EH:=ae (fun j=>fZ (A:=A) (fun i hi=>(r5 i (j1 h.a.hlen)).2) j);have GX:=ae r6;obtain⟨st,J,G,rr,rv,rp⟩:=r;obtain⟨v1,v2⟩:=rv;simp only at hs HE GR;subst hs;have HV:=ae (ee T0.o.lp);rw[ok]at HV;clear h h' r4 r5 r6;have Ek:=ae (fun(W:World) (t:Two w W a nb ca b nb cb c nc cc xa xn xc ya yn yc ra rn rc ⟨1,J,G,rr,(v1,v2),rp⟩ A B C)=>js t.lp t.lr.x);rw[ok]at Ek;simp only[Bool.true_and]at Ek;cases hf:dF A B C.length J
 ·rw[hf]at Ek HE;clear hf;go_enter Tryz.func130,Tryz.ntmps130
  go_wp2_with fail;refine HV.o.mono ?_;rintro e w1 ⟨rfl,hx⟩;have Z:=ae (T0.o.grow hx);obtain⟨p0,p1,p2⟩:=Z.o.p;obtain⟨U,q1,I,Q,O,K⟩:=Z.o.q;clear hx;go_wp2_with fail;refine(Ek.o _ Z.o).mono ?_;rintro e w2 ⟨rfl,hx⟩;have T2:=ae (Z.o.grow hx);clear hx;go_wp2_with fail;go_ret;exact⟨ai (by rw[HE.o];rfl),T2.o.all⟩
 ·rw[hf]at Ek HE;clear hf;by_cases Dd:yn=nb
  ·subst Dd;have Fu:((yn:Int) != (yn:Int))=false:=by simp
   have zz:=ae (show aG am A B C ⟨1,J,G,rr,(v1,v2),rp⟩=((List.range nc).all (am A G C)&&gm B C ⟨1,J,G,rr,(v1,v2),rp⟩)by rw[HE.o,GR.o,xi.o,yw.o,decide_eq_true rfl];rfl);go_enter Tryz.func130,Tryz.ntmps130
   go_wp2_with fail;refine HV.o.mono ?_;rintro e w1 ⟨rfl,hx⟩;have Z:=ae (T0.o.grow hx);obtain⟨p0,p1,p2⟩:=Z.o.p;obtain⟨U,q1,I,Q,O,K⟩:=Z.o.q;clear hx;go_wp2_with fail;refine(Ek.o _ Z.o).mono ?_;rintro e w2 ⟨rfl,hx⟩;have T2:=ae (Z.o.grow hx);clear hx p0 p1 p2 U q1 I Q O K;obtain⟨p0,p1,p2⟩:=T2.o.p;obtain⟨U,q1,I,Q,O,K⟩:=T2.o.q;go_wp2_with fail
   go_loopg [46] nc (fun gk ii wr=>∃k:Nat,b7 (gk+k=nc)/\ii=.int .i64 (k:Int)/\b7 ((List.range k).all (am A G C)=true)/\b7 (Two w wr a yn ca b yn cb c nc cc xa xn xc ya yn yc ra rn rc ⟨1,J,G,rr,(v1,v2),rp⟩ A B C))
   case atStart=>exact⟨0,ae e7,rfl,ae rfl,T2⟩
   case round =>
    obtain⟨g1,o6⟩:=b9 gk;subst o6;obtain⟨o8,o4⟩:=b9 wr;subst o4;obtain⟨k,HK,rfl,HA,T⟩:=hrel;clear p0 p1 p2 U q1 I Q O K;by_cases hlt:k<nc
    ·obtain⟨zb,vF,cx,cy,zX,xQ,xr,Cm⟩:=T.o.lp.c.at hlt;subst zX;have HXY:=ae xQ;clear xQ;obtain⟨E,hE⟩:=b9 (o8.alloc (.cells #[.int .i64 cx,.int .i64 cy] 62));have yD:Ext o8 E:=by rw[hE];exact Ext.alloc _ _
     have TE:=ae (T.o.grow yD);have BM:=ae (show ag o8 E o8.heap.size cx cy by rw[hE];exact ag.new (Ext.refl _) _ _);go_upto_region 10 with fail;rw[<-hE];clear hE yD xr Cm;obtain⟨p0,p1,p2⟩:=TE.o.p;obtain⟨U,q1,I,Q,O,K⟩:=TE.o.q;have zA:=ae (kx A k);obtain⟨dv,As⟩:=b9 (vg G (ar (vJ A k)));have Fq:=ae As.symm;obtain⟨d1,d2,BY,hdd⟩:∃x y ok,vS dv=((x,y),ok):=⟨_,_,_,rfl⟩;have Bk:=ae hdd;have Gk:=ae (show dQ (vJ A k)=ar (vJ A k)from fe (EH.o k));clear As hdd;go_upto_region 10 with fail
     go_cut [7,8] (fun sx so wx=>∃g:Nat,sx=.pointer (some ⟨g,0,none⟩)/\so=.bool BY/\b7 (ag E wx g d1 d2))
     case first =>
      have k7:Ext E E.drew:=Ext.drew E;have vt:Ext E (E.alloc (.cells #[.int .i64 0,.int .i64 0] 62)).drew:=(Ext.alloc _ _).trans (Ext.drew _);have k8:=ae (fun(w':World) (h:Ext E w')=>(⟨h.j9 p0,h.j9 p1,h.j9 p2,h.j9 I,h⟩:w'.cell? ⟨w.heap.size,0,none⟩=some (.slice a yn ca)/\w'.cell? ⟨w.heap.size,1,none⟩=some (.slice b yn cb)/\w'.cell? ⟨w.heap.size,2,none⟩=some (.slice (some ⟨zb,vF,none⟩) nc cc)/\w'.cell? ⟨w.heap.size+1,2,none⟩=some (.slice ya yn yc)/\Ext E w'))
      go_region_held3 (fun w'=>w'.cell? ⟨w.heap.size,0,none⟩=some (.slice a yn ca)/\w'.cell? ⟨w.heap.size,1,none⟩=some (.slice b yn cb)/\w'.cell? ⟨w.heap.size,2,none⟩=some (.slice (some ⟨zb,vF,none⟩) nc cc)/\w'.cell? ⟨w.heap.size+1,2,none⟩=some (.slice ya yn yc)/\Ext E w')
       (first
         | with_reducible exact k8.o _ k7
         | with_reducible exact k8.o _ vt
         | with_reducible exact k8.o _ ((k7.setCell (by first|(simp;done)|(simp;omega)) _).setCell (by first|(simp;done)|(simp;omega)) _)
         | with_reducible exact k8.o _ (k7.trans (Ext.alloc _ _))
         | with_reducible exact k8.o _ (p4.put _ _).ext)
       (first
         | (go_at_call 198
            (with_reducible refine(pd (b:=b) (nb:=yn) (cb:=cb) (c:=some ⟨zb,vF,none⟩) (nc:=nc) (cc:=cc) (TE.o.lp.a.ext (by first|with_reducible exact k7|with_reducible exact vt|with_reducible exact k7.trans (Ext.alloc _ _))) zS.o hlt e7 e7).mono ?_)
            rintro e w3 ⟨⟨v3,rfl,xt⟩,r9⟩;obtain⟨a3,n3,c3,rfl,Fx⟩:=xt.var
            first|(with_reducible have p4:=ag.grow p4 r9)|(with_reducible have p4:=ag.vm r9)|(with_reducible have p4:=ag.vq k7 r9)|skip
            first|(have Ag:=p4.c0;have Af:=p4.c1;have Bb:=p4.free)|skip
            have k7:Ext E w3:=by first|with_reducible exact k7.trans r9|with_reducible exact vt.trans r9|with_reducible exact(k7.trans (Ext.alloc _ _)).trans r9
            have xu:=k7.size)
         | (go_at_call 193
            (with_reducible refine(gV (by first|with_reducible exact xt.ints|with_reducible exact(xt.ext (Ext.alloc _ _)).ints) (by have:=Fx.out;have:=zA.o;have:=zk.o;omega)).mono ?_)
            rw[Gk.o];rintro e w4 ⟨⟨v4,rfl,z8⟩,uX⟩;obtain⟨a4,n4,c4,rfl,EZ⟩:=z8.var
            first|(with_reducible have p4:=ag.grow p4 uX)|(with_reducible have p4:=ag.vm uX)|(with_reducible have p4:=ag.vq k7 uX)|skip
            first|(have Ag:=p4.c0;have Af:=p4.c1;have Bb:=p4.free)|skip
            have k7:Ext E w4:=by first|with_reducible exact k7.trans uX|with_reducible exact vt.trans uX|with_reducible exact(k7.trans (Ext.alloc _ _)).trans uX
            have xu:=k7.size)
         | (go_at_call 197
            (with_reducible refine(fc (TE.o.lr.y.ext (by first|with_reducible exact k7|with_reducible exact vt|with_reducible exact k7.trans (Ext.alloc _ _))) (by first|with_reducible exact z8.uZ|with_reducible exact(z8.ext (Ext.alloc _ _)).uZ)).mono ?_)
            rw[Fq.o,Bk.o];rintro e w5 ⟨rfl,uY⟩
            first|(with_reducible have p4:=ag.grow p4 uY)|(with_reducible have p4:=ag.vm uY)|(with_reducible have p4:=ag.vq k7 uY)|skip
            first|(have Ag:=p4.c0;have Af:=p4.c1;have Bb:=p4.free)|skip
            have k7:Ext E w5:=by first|with_reducible exact k7.trans uY|with_reducible exact vt.trans uY|with_reducible exact(k7.trans (Ext.alloc _ _)).trans uY
            have xu:=k7.size)
         | fail)
      all_goals(go_wp2_with fail;go_meet;first|exact⟨_,rfl,rfl,ae (p4.put _ _)⟩|exact⟨_,rfl,rfl,ae (ag.new k7 _ _)⟩|exact⟨_,rfl,rfl,ae (ag.new' k7 _ _ e8)⟩)
     obtain⟨g,rfl,rfl,wy⟩:=hcut;have yN:=ae (BM.o.grow wy.o.ext);have TW:=ae (TE.o.grow wy.o.ext);clear p0 p1 p2 U q1 I Q O K;have c0:=yN.o.c0;have c1:=yN.o.c1;have g0:=wy.o.c0;have g1':=wy.o.c1;obtain⟨l1,l2,lok,RK⟩:∃x y ok,vD (cx,cy) (d1,d2)=((x,y),ok):=⟨_,_,_,rfl⟩;have VW:=ae (kF cx cy d1 d2 wc);rw[RK]at VW;have xg:=ae RK;clear RK;go_wp2_with fail;refine VW.o.mono ?_;rintro e w6 ⟨rfl,hx⟩;have TX:=ae ((TW.o.grow hx).grow (Ext.alloc _ (.cells #[.int .i64 l1,.int .i64 l2] 62)));clear hx;cases dv with
     | none =>
       have A8:BY=false:=by have:=Bk.o;simp only[vS]at this;simpa using (congrArg Prod.snd this).symm
       subst A8;have HF:=ae (show aG am A B C ⟨1,J,G,rr,(v1,v2),rp⟩=false by rw[zz.o,cX hlt (qw Fq.o)];rfl);go_wp2_with fail;go_ret;exact⟨ai HF.o.symm,TX.o.all⟩
     | some Y3 =>
       have A8:BY=true:=by have:=Bk.o;simp only[vS]at this;simpa using (congrArg Prod.snd this).symm
       have Bw:Y3=(d1,d2):=by have:=Bk.o;simp only[vS]at this;simpa using congrArg Prod.fst this
       subst A8 Bw;have Lw:=ae (show am A G C k=(lok&&decide (0<=l1))by rw[qx Fq.o HXY.o,xg.o]);cases lok
       ·have HF:=ae (show aG am A B C ⟨1,J,G,rr,(v1,v2),rp⟩=false by rw[zz.o,cX hlt (by rw[Lw.o];rfl)];rfl);go_wp2_with fail;go_ret;exact⟨ai HF.o.symm,TX.o.all⟩
       ·by_cases hl0:l1<0
        ·have HF:=ae (show aG am A B C ⟨1,J,G,rr,(v1,v2),rp⟩=false by rw[zz.o,cX hlt (by rw[Lw.o,decide_eq_false e7];rfl)];rfl);go_wp2_with fail;go_ret;exact⟨ai HF.o.symm,TX.o.all⟩
        ·have HT:=ae (show(List.range (k+1)).all (am A G C)=true by rw[fK,HA.o,Lw.o,decide_eq_true e7];rfl);go_wp2_with fail
         go_roundg (g1-1)
         case measure=>have:=HK.o;omega
         case rel=>exact⟨k+1,ae (j1 HK.o),by go_num,HT,TX⟩
    ·have vZ:nc=k:=by have:=HK.o;omega
     subst vZ;have ID:=ae (show aG am A B C ⟨1,J,G,rr,(v1,v2),rp⟩=gm B C ⟨1,J,G,rr,(v1,v2),rp⟩by rw[zz.o,HA.o];rfl);obtain⟨p0,p1,p2⟩:=T.o.p;obtain⟨U,q1,I,Q,O,K⟩:=T.o.q;obtain⟨dx,Ew⟩:=b9 (vg C J);obtain⟨dy,F7⟩:=b9 (vg G (ar B));have HM:=ae (show gm B C ⟨1,J,G,rr,(v1,v2),rp⟩=iR dx dy (v1,v2)by rw[py,Ew,F7]);obtain⟨x1,x2,LA,Gw⟩:∃x y ok,vS dx=((x,y),ok):=⟨_,_,_,rfl⟩;obtain⟨y1,y2,DV,JJ⟩:∃x y ok,vS dy=((x,y),ok):=⟨_,_,_,rfl⟩;have Av:=ae Gw;have Ex:=ae JJ;have FI:=ae (fc T.o.lp.c T.o.lr.x);have Lr:=ae F7.symm;rw[<-Ew,Gw]at FI;have wi:=ae (show dQ B=ar B from fe GX.o);clear Ew F7 Gw JJ;go_wp2_with fail;refine FI.o.mono ?_;rintro e w3 ⟨rfl,hx⟩;clear p0 p1 p2 U q1 I Q O K;obtain⟨E,hE⟩:=b9 (w3.alloc (.cells #[.int .i64 x1,.int .i64 x2] 62));have yD:Ext w3 E:=by rw[hE];exact Ext.alloc _ _
     have TE:=ae ((T.o.grow hx).grow yD);have BM:=ae (show ag w3 E w3.heap.size x1 x2 by rw[hE];exact ag.new (Ext.refl _) _ _);go_upto_region 16 with fail;rw[<-hE];clear hE yD hx;obtain⟨p0,p1,p2⟩:=TE.o.p;obtain⟨U,q1,I,Q,O,K⟩:=TE.o.q;go_upto_region 16 with fail
     go_cut [13,14] (fun sx so wx=>∃g:Nat,sx=.pointer (some ⟨g,0,none⟩)/\so=.bool DV/\b7 (ag E wx g y1 y2))
     case first =>
      have k7:Ext E E.drew:=Ext.drew E;have vt:Ext E (E.alloc (.cells #[.int .i64 0,.int .i64 0] 62)).drew:=(Ext.alloc _ _).trans (Ext.drew _);have k8:=ae (fun(w':World) (h:Ext E w')=>(⟨h.j9 p1,h.j9 I,h⟩:w'.cell? ⟨w.heap.size,1,none⟩=some (.slice b yn cb)/\w'.cell? ⟨w.heap.size+1,2,none⟩=some (.slice ya yn yc)/\Ext E w'))
      go_region_held3 (fun w'=>w'.cell? ⟨w.heap.size,1,none⟩=some (.slice b yn cb)/\w'.cell? ⟨w.heap.size+1,2,none⟩=some (.slice ya yn yc)/\Ext E w')
       (first
         | with_reducible exact k8.o _ k7
         | with_reducible exact k8.o _ vt
         | with_reducible exact k8.o _ ((k7.setCell (by first|(simp;done)|(simp;omega)) _).setCell (by first|(simp;done)|(simp;omega)) _)
         | with_reducible exact k8.o _ (k7.trans (Ext.alloc _ _))
         | with_reducible exact k8.o _ (p4.put _ _).ext)
       (first
         | (go_at_call 193
            (with_reducible refine(gV (TE.o.lp.b.ext (by first|with_reducible exact k7|with_reducible exact vt|with_reducible exact k7.trans (Ext.alloc _ _))) e7).mono ?_)
            rw[wi.o];rintro e w4 ⟨⟨v4,rfl,z8⟩,uX⟩;obtain⟨a4,n4,c4,rfl,EZ⟩:=z8.var
            first|(with_reducible have p4:=ag.grow p4 uX)|(with_reducible have p4:=ag.vm uX)|(with_reducible have p4:=ag.vq k7 uX)|skip
            first|(have Ag:=p4.c0;have Af:=p4.c1;have Bb:=p4.free)|skip
            have k7:Ext E w4:=by first|with_reducible exact k7.trans uX|with_reducible exact vt.trans uX|with_reducible exact(k7.trans (Ext.alloc _ _)).trans uX
            have xu:=k7.size)
         | (go_at_call 197
            (with_reducible refine(fc (TE.o.lr.y.ext (by first|with_reducible exact k7|with_reducible exact vt|with_reducible exact k7.trans (Ext.alloc _ _))) (by first|with_reducible exact z8.uZ|with_reducible exact(z8.ext (Ext.alloc _ _)).uZ)).mono ?_)
            rw[Lr.o,Ex.o];rintro e w5 ⟨rfl,uY⟩
            first|(with_reducible have p4:=ag.grow p4 uY)|(with_reducible have p4:=ag.vm uY)|(with_reducible have p4:=ag.vq k7 uY)|skip
            first|(have Ag:=p4.c0;have Af:=p4.c1;have Bb:=p4.free)|skip
            have k7:Ext E w5:=by first|with_reducible exact k7.trans uY|with_reducible exact vt.trans uY|with_reducible exact(k7.trans (Ext.alloc _ _)).trans uY
            have xu:=k7.size)
         | fail)
      all_goals(go_wp2_with fail;go_meet;first|exact⟨_,rfl,rfl,ae (p4.put _ _)⟩|exact⟨_,rfl,rfl,ae (ag.new k7 _ _)⟩|exact⟨_,rfl,rfl,ae (ag.new' k7 _ _ e8)⟩)
     obtain⟨g,rfl,rfl,wy⟩:=hcut;have yN:=ae (BM.o.grow wy.o.ext);have TW:=ae (TE.o.grow wy.o.ext);clear p0 p1 p2 U q1 I Q O K;obtain⟨p0,p1,p2⟩:=TW.o.p;obtain⟨U,q1,I,Q,O,K⟩:=TW.o.q;have c0:=yN.o.c0;have c1:=yN.o.c1;have g0:=wy.o.c0;have g1':=wy.o.c1;cases dx with
     | none =>
       have A8:LA=false:=by have:=Av.o;simp only[vS]at this;simpa using (congrArg Prod.snd this).symm
       subst A8;go_wp2_with fail;go_ret;exact⟨ai (by rw[ID.o,HM.o,(iS _ _).1]),TW.o.all⟩
     | some xv =>
       have A8:LA=true:=by have:=Av.o;simp only[vS]at this;simpa using (congrArg Prod.snd this).symm
       have Bw:xv=(x1,x2):=by have:=Av.o;simp only[vS]at this;simpa using congrArg Prod.fst this
       subst A8 Bw;cases dy with
       | none =>
         have A8:DV=false:=by have:=Ex.o;simp only[vS]at this;simpa using (congrArg Prod.snd this).symm
         subst A8;go_wp2_with fail;go_ret;exact⟨ai (by rw[ID.o,HM.o,(iS _ _).2]),TW.o.all⟩
       | some yv =>
         have A8:DV=true:=by have:=Ex.o;simp only[vS]at this;simpa using (congrArg Prod.snd this).symm
         have Bw:yv=(y1,y2):=by have:=Ex.o;simp only[vS]at this;simpa using congrArg Prod.fst this
         subst A8 Bw;have Lj:=ae (show aG am A B C ⟨1,J,G,rr,(v1,v2),rp⟩=(((x1 == y1)&&(x2 == y2))&&((x1 == v1)&&(x2 == v2)))by rw[ID.o,HM.o,lO]);cases h1:(x1 == y1)
         all_goals
          cases h2:(x2 == y2)
         all_goals
          have Cc:=ae Lj.o;rw[h1,h2]at Cc
         all_goals try(
          have HF:=ae (show aG am A B C ⟨1,J,G,rr,(v1,v2),rp⟩=false by rw[Cc.o];rfl);go_wp2_with fail;go_ret
          exact⟨ai HF.o.symm,TW.o.all⟩)
         cases h3:(x1 == v1)
         all_goals
          cases h4:(x2 == v2)
         all_goals
          rw[h3,h4]at Cc;go_wp2_with fail;go_ret;exact⟨ai (by rw[Cc.o];rfl),TW.o.all⟩
  ·have Fu:((yn:Int) != (nb:Int))=true:=by simp;omega
   have HF:=ae (show aG am A B C ⟨1,J,G,rr,(v1,v2),rp⟩=false by rw[HE.o,GR.o,xi.o,decide_eq_false Dd];rfl);go_enter Tryz.func130,Tryz.ntmps130
   go_wp2_with fail;refine HV.o.mono ?_;rintro e w1 ⟨rfl,hx⟩;have Z:=ae (T0.o.grow hx);obtain⟨p0,p1,p2⟩:=Z.o.p;obtain⟨U,q1,I,Q,O,K⟩:=Z.o.q;clear hx;go_wp2_with fail;refine(Ek.o _ Z.o).mono ?_;rintro e w2 ⟨rfl,hx⟩;have T2:=ae (Z.o.grow hx);clear hx p0 p1 p2 U q1 I Q O K;obtain⟨p0,p1,p2⟩:=T2.o.p;obtain⟨U,q1,I,Q,O,K⟩:=T2.o.q;go_wp2_with fail;go_ret;exact⟨ai HF.o.symm,T2.o.all⟩
end
def Wq(x:Option (Int×Int)):Bool:=match x with|none=>false|some v=>decide (v.1<=0)
def Jg(x:Option (Int×Int)):Bool:=match x with|none=>false|some v=>decide (0<v.1)
def Jp(x:Option (Int×Int)):Bool:=match x with|none=>false|some v=>decide (v.1<0)
def Mz(A:j5)(Y:j4)(j:Nat):Bool:=Wq (vg Y (ar (vJ A j)))
theorem lS(A:j5)(B:j7)(n:Nat)(Y:j4):jM A B n Y=((List.range n).all (Mz A Y)&&Jg (vg Y (ar B))):=rfl
theorem rF(A:j5)(B:j7)(C:j4)(zf:j4):Mo A B C zf=((decide (zf.length=C.length)&&Ax zf)&&(dd A zf (List.replicate B.length 0)&&Jp (vg C zf))):=by
 unfold Mo;rw[Bool.and_assoc];rfl
section
variable{w:World}{a:j6}{na ca:Nat}{b:j6}{nb cb:Nat}{c:j6}{nc cc:Nat}{A:j5}{B:j7}{C:j4}
 {xa:j6} {xn xc:Nat} {ya:j6} {yn yc:Nat} {ra:j6} {rn rc:Nat} {r:yu}
theorem sG(h:Bf w a na ca b nb cb c nc cc A B C)(h':GM w xa xn xc ya yn yc ra rn rc r)(ok:vG A B C=true)(hs:r.status=2):
 Calls Tryz.prog 130 #[Al a na ca b nb cb c nc cc,zg r xa xn xc ya yn yc ra rn rc] w fun e w'=>e=.returned (.bool (aG am A B C r))/\Ext w w':=by
 obtain⟨r1,r2,r3,r4,r5,r6⟩:=co h ok;subst r3;have T0:=ae (show Two w ((w.alloc (aV a nb ca b nb cb c nc cc)).alloc (bH r xa xn xc ya yn yc ra rn rc)) a nb ca b nb cb c nc cc xa xn xc ya yn yc ra rn rc r A B C from⟨Ext.refl _,(h.ext (Ext.alloc _ _)).ext (Ext.alloc _ _),(h'.ext (Ext.alloc _ _)).ext (Ext.alloc _ _)⟩);have xG:=h'.y.l8;have Bt:=h'.y.o0;have xB:=h.c.l8;have zC:=h.c.o0;have xL:=h.b.l8;have wU:=h.b.o0;have yw:=ae h.c.hlen;have xi:=ae h.b.hlen;have zk:=ae h.a.hlen;have GR:=ae h'.y.hlen;have HE:=ae (show aG am A B C r=(decide (r.Y.length=B.length)&&jM A B C.length r.Y)by unfold aG;rw[if_neg e7,if_pos hs]);have zS:=ae r4;have EH:=ae (fun j=>fZ (A:=A) (fun i hi=>(r5 i (j1 h.a.hlen)).2) j);have GX:=ae r6;obtain⟨st,rX,G,U,rv,Z⟩:=r;obtain⟨v1,v2⟩:=rv;simp only at hs HE GR;subst hs;have HV:=ae (ee T0.o.lp);rw[ok]at HV;clear h h' r4 r5 r6;have FA:((2:Int) == 1)=false:=by decide
 by_cases Dd:yn=nb
 ·subst Dd;have Fu:((yn:Int) != (yn:Int))=false:=by simp
  have zz:=ae (show aG am A B C ⟨2,rX,G,U,(v1,v2),Z⟩=((List.range nc).all (Mz A G)&&Jg (vg G (ar B)))by rw[HE.o,GR.o,xi.o,yw.o,decide_eq_true rfl,lS];rfl);go_enter Tryz.func130,Tryz.ntmps130
  go_wp2_with fail;refine HV.o.mono ?_;rintro e w1 ⟨rfl,hx⟩;have Q:=ae (T0.o.grow hx);obtain⟨p0,p1,p2⟩:=Q.o.p;obtain⟨q0,q1,K,q3,q4,q5⟩:=Q.o.q;clear hx;go_wp2_with fail
  go_loopg [123] nc (fun gk ii wr=>∃k:Nat,b7 (gk+k=nc)/\ii=.int .i64 (k:Int)/\b7 ((List.range k).all (Mz A G)=true)/\b7 (Two w wr a yn ca b yn cb c nc cc xa xn xc ya yn yc ra rn rc ⟨2,rX,G,U,(v1,v2),Z⟩ A B C))
  case atStart=>exact⟨0,ae e7,rfl,ae rfl,Q⟩
  case round =>
   obtain⟨g1,o6⟩:=b9 gk;subst o6;obtain⟨E,o4⟩:=b9 wr;subst o4;obtain⟨k,HK,rfl,HA,T⟩:=hrel;clear p0 p1 p2 q0 q1 K q3 q4 q5;by_cases hlt:k<nc
   ·go_upto_region 24 with fail;obtain⟨p0,p1,p2⟩:=T.o.p;obtain⟨q0,q1,K,q3,q4,q5⟩:=T.o.q;have zA:=ae (kx A k);obtain⟨dv,As⟩:=b9 (vg G (ar (vJ A k)));have Fq:=ae As.symm;obtain⟨d1,d2,BY,hdd⟩:∃x y ok,vS dv=((x,y),ok):=⟨_,_,_,rfl⟩;have Bk:=ae hdd;have Gk:=ae (show dQ (vJ A k)=ar (vJ A k)from fe (EH.o k));have IA:=ae (show Mz A G k=Wq dv by unfold Mz;rw[As]);clear As hdd;go_upto_region 24 with fail
    go_cut [16,17] (fun sx so wx=>∃g:Nat,sx=.pointer (some ⟨g,0,none⟩)/\so=.bool BY/\b7 (ag E wx g d1 d2))
    case first =>
     have k7:Ext E E.drew:=Ext.drew E;have J:Ext E (E.alloc (.cells #[.int .i64 0,.int .i64 0] 62)).drew:=(Ext.alloc _ _).trans (Ext.drew _);have k8:=ae (fun(w':World) (h:Ext E w')=>(⟨h.j9 p0,h.j9 p1,h.j9 p2,h.j9 K,h⟩:w'.cell? ⟨w.heap.size,0,none⟩=some (.slice a yn ca)/\w'.cell? ⟨w.heap.size,1,none⟩=some (.slice b yn cb)/\w'.cell? ⟨w.heap.size,2,none⟩=some (.slice c nc cc)/\w'.cell? ⟨w.heap.size+1,2,none⟩=some (.slice ya yn yc)/\Ext E w'))
     go_region_held3 (fun w'=>w'.cell? ⟨w.heap.size,0,none⟩=some (.slice a yn ca)/\w'.cell? ⟨w.heap.size,1,none⟩=some (.slice b yn cb)/\w'.cell? ⟨w.heap.size,2,none⟩=some (.slice c nc cc)/\w'.cell? ⟨w.heap.size+1,2,none⟩=some (.slice ya yn yc)/\Ext E w')
      (first
        | with_reducible exact k8.o _ k7
        | with_reducible exact k8.o _ J
        | with_reducible exact k8.o _ ((k7.setCell (by first|(simp;done)|(simp;omega)) _).setCell (by first|(simp;done)|(simp;omega)) _)
        | with_reducible exact k8.o _ (k7.trans (Ext.alloc _ _))
        | with_reducible exact k8.o _ (p4.put _ _).ext)
      (first
        | (go_at_call 198
           (with_reducible refine(pd (b:=b) (nb:=yn) (cb:=cb) (c:=c) (nc:=nc) (cc:=cc) (T.o.lp.a.ext (by first|with_reducible exact k7|with_reducible exact J|with_reducible exact k7.trans (Ext.alloc _ _))) zS.o hlt e7 e7).mono ?_)
           rintro e w3 ⟨⟨v3,rfl,xt⟩,r9⟩;obtain⟨a3,n3,c3,rfl,Fx⟩:=xt.var
           first|(with_reducible have p4:=ag.grow p4 r9)|(with_reducible have p4:=ag.vm r9)|(with_reducible have p4:=ag.vq k7 r9)|skip
           first|(have Ag:=p4.c0;have Af:=p4.c1;have Bb:=p4.free)|skip
           have k7:Ext E w3:=by first|with_reducible exact k7.trans r9|with_reducible exact J.trans r9|with_reducible exact(k7.trans (Ext.alloc _ _)).trans r9
           have xu:=k7.size)
        | (go_at_call 193
           (with_reducible refine(gV (by first|with_reducible exact xt.ints|with_reducible exact(xt.ext (Ext.alloc _ _)).ints) (by have:=Fx.out;have:=zA.o;have:=zk.o;omega)).mono ?_)
           rw[Gk.o];rintro e w4 ⟨⟨v4,rfl,O⟩,uX⟩;obtain⟨a4,n4,c4,rfl,EZ⟩:=O.var
           first|(with_reducible have p4:=ag.grow p4 uX)|(with_reducible have p4:=ag.vm uX)|(with_reducible have p4:=ag.vq k7 uX)|skip
           first|(have Ag:=p4.c0;have Af:=p4.c1;have Bb:=p4.free)|skip
           have k7:Ext E w4:=by first|with_reducible exact k7.trans uX|with_reducible exact J.trans uX|with_reducible exact(k7.trans (Ext.alloc _ _)).trans uX
           have xu:=k7.size)
        | (go_at_call 197
           (with_reducible refine(fc (T.o.lr.y.ext (by first|with_reducible exact k7|with_reducible exact J|with_reducible exact k7.trans (Ext.alloc _ _))) (by first|with_reducible exact O.uZ|with_reducible exact(O.ext (Ext.alloc _ _)).uZ)).mono ?_)
           rw[Fq.o,Bk.o];rintro e w5 ⟨rfl,I⟩
           first|(with_reducible have p4:=ag.grow p4 I)|(with_reducible have p4:=ag.vm I)|(with_reducible have p4:=ag.vq k7 I)|skip
           first|(have Ag:=p4.c0;have Af:=p4.c1;have Bb:=p4.free)|skip
           have k7:Ext E w5:=by first|with_reducible exact k7.trans I|with_reducible exact J.trans I|with_reducible exact(k7.trans (Ext.alloc _ _)).trans I
           have xu:=k7.size)
        | fail)
     all_goals(go_wp2_with fail;go_meet;first|exact⟨_,rfl,rfl,ae (p4.put _ _)⟩|exact⟨_,rfl,rfl,ae (ag.new k7 _ _)⟩|exact⟨_,rfl,rfl,ae (ag.new' k7 _ _ e8)⟩)
    obtain⟨g,rfl,rfl,wy⟩:=hcut;have TW:=ae (T.o.grow wy.o.ext);clear p0 p1 p2 q0 q1 K q3 q4 q5;have g0:=wy.o.c0;cases dv with
    | none =>
      have A8:BY=false:=by have:=Bk.o;simp only[vS]at this;simpa using (congrArg Prod.snd this).symm
      subst A8;have HF:=ae (show aG am A B C ⟨2,rX,G,U,(v1,v2),Z⟩=false by rw[zz.o,cX hlt (by rw[IA.o];rfl)];rfl);go_wp2_with fail;go_ret;exact⟨ai HF.o.symm,TW.o.all⟩
    | some Y3 =>
      have A8:BY=true:=by have:=Bk.o;simp only[vS]at this;simpa using (congrArg Prod.snd this).symm
      have Bw:Y3=(d1,d2):=by have:=Bk.o;simp only[vS]at this;simpa using congrArg Prod.fst this
      subst A8 Bw;by_cases hl0:d1 > 0
      ·have HF:=ae (show aG am A B C ⟨2,rX,G,U,(v1,v2),Z⟩=false by rw[zz.o,cX hlt (by rw[IA.o];exact decide_eq_false e7)];rfl);go_wp2_with fail;go_ret;exact⟨ai HF.o.symm,TW.o.all⟩
      ·have HT:=ae (show(List.range (k+1)).all (Mz A G)=true by rw[fK,HA.o,IA.o,Bool.true_and];exact decide_eq_true e7);go_wp2_with fail
       go_roundg (g1-1)
       case measure=>have:=HK.o;omega
       case rel=>exact⟨k+1,ae (j1 HK.o),by go_num,HT,TW⟩
   ·have vZ:nc=k:=by have:=HK.o;omega
    subst vZ;have ID:=ae (show aG am A B C ⟨2,rX,G,U,(v1,v2),Z⟩=Jg (vg G (ar B))by rw[zz.o,HA.o];rfl);obtain⟨dy,F7⟩:=b9 (vg G (ar B));rw[<-F7]at ID;obtain⟨y1,y2,DV,JJ⟩:∃x y ok,vS dy=((x,y),ok):=⟨_,_,_,rfl⟩;have Ex:=ae JJ;have Lr:=ae F7.symm;have wi:=ae (show dQ B=ar B from fe GX.o);clear F7 JJ;go_upto_region 28 with fail;obtain⟨p0,p1,p2⟩:=T.o.p;obtain⟨q0,q1,K,q3,q4,q5⟩:=T.o.q;go_upto_region 28 with fail
    go_cut [18,19] (fun sx so wx=>∃g:Nat,sx=.pointer (some ⟨g,0,none⟩)/\so=.bool DV/\b7 (ag E wx g y1 y2))
    case first =>
     have k7:Ext E E.drew:=Ext.drew E;have J:Ext E (E.alloc (.cells #[.int .i64 0,.int .i64 0] 62)).drew:=(Ext.alloc _ _).trans (Ext.drew _);have k8:=ae (fun(w':World) (h:Ext E w')=>(⟨h.j9 p1,h.j9 K,h⟩:w'.cell? ⟨w.heap.size,1,none⟩=some (.slice b yn cb)/\w'.cell? ⟨w.heap.size+1,2,none⟩=some (.slice ya yn yc)/\Ext E w'))
     go_region_held3 (fun w'=>w'.cell? ⟨w.heap.size,1,none⟩=some (.slice b yn cb)/\w'.cell? ⟨w.heap.size+1,2,none⟩=some (.slice ya yn yc)/\Ext E w')
      (first
        | with_reducible exact k8.o _ k7
        | with_reducible exact k8.o _ J
        | with_reducible exact k8.o _ ((k7.setCell (by first|(simp;done)|(simp;omega)) _).setCell (by first|(simp;done)|(simp;omega)) _)
        | with_reducible exact k8.o _ (k7.trans (Ext.alloc _ _))
        | with_reducible exact k8.o _ (p4.put _ _).ext)
      (first
        | (go_at_call 193
           (with_reducible refine(gV (T.o.lp.b.ext (by first|with_reducible exact k7|with_reducible exact J|with_reducible exact k7.trans (Ext.alloc _ _))) e7).mono ?_)
           rw[wi.o];rintro e w4 ⟨⟨v4,rfl,O⟩,uX⟩;obtain⟨a4,n4,c4,rfl,EZ⟩:=O.var
           first|(with_reducible have p4:=ag.grow p4 uX)|(with_reducible have p4:=ag.vm uX)|(with_reducible have p4:=ag.vq k7 uX)|skip
           first|(have Ag:=p4.c0;have Af:=p4.c1;have Bb:=p4.free)|skip
           have k7:Ext E w4:=by first|with_reducible exact k7.trans uX|with_reducible exact J.trans uX|with_reducible exact(k7.trans (Ext.alloc _ _)).trans uX
           have xu:=k7.size)
        | (go_at_call 197
           (with_reducible refine(fc (T.o.lr.y.ext (by first|with_reducible exact k7|with_reducible exact J|with_reducible exact k7.trans (Ext.alloc _ _))) (by first|with_reducible exact O.uZ|with_reducible exact(O.ext (Ext.alloc _ _)).uZ)).mono ?_)
           rw[Lr.o,Ex.o];rintro e w5 ⟨rfl,I⟩
           first|(with_reducible have p4:=ag.grow p4 I)|(with_reducible have p4:=ag.vm I)|(with_reducible have p4:=ag.vq k7 I)|skip
           first|(have Ag:=p4.c0;have Af:=p4.c1;have Bb:=p4.free)|skip
           have k7:Ext E w5:=by first|with_reducible exact k7.trans I|with_reducible exact J.trans I|with_reducible exact(k7.trans (Ext.alloc _ _)).trans I
           have xu:=k7.size)
        | fail)
     all_goals(go_wp2_with fail;go_meet;first|exact⟨_,rfl,rfl,ae (p4.put _ _)⟩|exact⟨_,rfl,rfl,ae (ag.new k7 _ _)⟩|exact⟨_,rfl,rfl,ae (ag.new' k7 _ _ e8)⟩)
    obtain⟨g,rfl,rfl,wy⟩:=hcut;have TW:=ae (T.o.grow wy.o.ext);clear p0 p1 p2 q0 q1 K q3 q4 q5;have g0:=wy.o.c0;cases dy with
    | none =>
      have A8:DV=false:=by have:=Ex.o;simp only[vS]at this;simpa using (congrArg Prod.snd this).symm
      subst A8;go_wp2_with fail;go_ret;exact⟨ai (by rw[ID.o];rfl),TW.o.all⟩
    | some yv =>
      have A8:DV=true:=by have:=Ex.o;simp only[vS]at this;simpa using (congrArg Prod.snd this).symm
      have Bw:yv=(y1,y2):=by have:=Ex.o;simp only[vS]at this;simpa using congrArg Prod.fst this
      subst A8 Bw;by_cases AL:y1 > 0
      ·go_wp2_with fail;go_ret;exact⟨ai (by rw[ID.o];exact(decide_eq_true AL).symm),TW.o.all⟩
      ·go_wp2_with fail;go_ret;exact⟨ai (by rw[ID.o];exact(decide_eq_false e7).symm),TW.o.all⟩
 ·have Fu:((yn:Int) != (nb:Int))=true:=by simp;omega
  have HF:=ae (show aG am A B C ⟨2,rX,G,U,(v1,v2),Z⟩=false by rw[HE.o,GR.o,xi.o,decide_eq_false Dd];rfl);go_enter Tryz.func130,Tryz.ntmps130
  go_wp2_with fail;refine HV.o.mono ?_;rintro e w1 ⟨rfl,hx⟩;have Q:=ae (T0.o.grow hx);obtain⟨p0,p1,p2⟩:=Q.o.p;obtain⟨q0,q1,K,q3,q4,q5⟩:=Q.o.q;clear hx;go_wp2_with fail;go_ret;exact⟨ai HF.o.symm,Q.o.all⟩
end
end Go.Proofs.YtdadoignenffgaaGreatDoor
