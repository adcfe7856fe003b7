import Derived.Test.YtalmoolkhcgmmaaGreatNqAltG22
set_option linter.unusedVariables false
set_option linter.unusedSimpArgs false
namespace Go.Proofs.YtalmoolkhcgmmaaGreat
variable{A:j7}{xa:j8}{xn DV:Nat}{W:World}
set_option maxHeartbeats 16000000
set_option maxRecDepth 100000
open Go.RowKit
theorem fg{r:j9}(h:∀x∈r,-5000<=x/\x<=5000):dU r=aw r:=by
 unfold dU CQ;rw[if_pos];rw[List.all_eq_true];intro x hx;have:=h x hx;simp[wJ];omega
def gm(A:j7)(x:j6)(B:j9)(i:Nat):Bool:=decide (wY (aw (A[i]?.getD [])) x=some (B[i]?.getD 0,1))
theorem oL(A:j7)(x:j6)(B:j9):dj A x B=(List.range A.length).all (gm A x B):=rfl
theorem sU{w:World}{a:j8}{na ca:Nat}{b:j8}{nb cb:Nat}{c:j8}{nc cc:Nat}(h:et w a na ca A){X:j6}(hX:r8 w xa xn DV X)
 {da:j8} {O Nn:Nat} {D:j9} (R:Ints w da O Nn D) (hdn:na<=O) (o9:∀i,i<na->(A[i]?.getD []).length<=70/\∀x∈A[i]?.getD [],-5000<=x/\x<=5000) :
 Calls Tryz.prog 115 #[C8 a na ca b nb cb c nc cc,.slice xa xn DV,.slice da O Nn] w fun e w'=>e=.returned (.bool (dj A X D))/\Ext w w':=by
 have wI:=Ext.alloc w (bE a na ca b nb cb c nc cc);have wM:=ae wI;have HI:=ae (h.ext wI);have B9:=ae (hX.ext wI);have CV:=ae (R.ext wI);have zQ:=ae o9;have Ke:=h.o3;have ES:=h.l9;have FI:=R.o3;have P8:=R.l9;have BL:=ae h.hlen;have HE:=ae (show dj A X D=(List.range na).all (gm A X D)by rw[oL,BL.o]);clear h hX R wI o9;go_enter Tryz.func115,Tryz.ntmps115
 go_wp2_with fail
 go_loopg [14] na (fun gk ii wr=>∃k:Nat,b7 (gk+k=na)/\ii=.int .i64 (k:Int)/\b7 ((List.range k).all (gm A X D)=true)/\b7 (Ext (w.alloc (bE a na ca b nb cb c nc cc)) wr))
 case atStart=>exact⟨0,ae b9,rfl,ae rfl,ae (Ext.refl _)⟩
 case round =>
  obtain⟨g1,r7⟩:=b8 gk;subst r7;obtain⟨o7,o6⟩:=b8 wr;subst o6;obtain⟨k,HK,rfl,HA,HX⟩:=hrel;have u:=HX.o.size;rw[World.size_alloc]at u;by_cases hlt:k<na
  ·obtain⟨gb,FJ,ra,rn,rc,Ol,PZ,o9⟩:=(HI.o.ext HX.o).at hlt;subst Ol;have BF:rn<=70:=by rw[<-o9.hlen];exact(zQ.o k hlt).1
   have R0:=ae (gX o9 b9);rw[fg (zQ.o k hlt).2]at R0;clear o9;go_wp2_with fail;refine R0.o.mono ?_;rintro e w2 ⟨⟨v2,rfl,Z⟩,xg⟩;obtain⟨a2,n2,c2,rfl,H6⟩:=Z.var;have X2:=ae (HX.o.trans xg);have HD:=ae (fK Z.wK (B9.o.ext X2.o));clear Z xg H6;obtain⟨dv,Bk⟩:=b8 (wY (aw (A[k]?.getD [])) X);have HG:=ae (show gm A X D k=decide (dv=some (D[k]?.getD 0,1))by rw[Bk];rfl);rw[<-Bk]at HD;clear Bk;obtain⟨db,EW,Xw,K⟩:=(CV.o.ext X2.o).at (show k<O by omega);subst Xw;obtain⟨d,hd⟩:=b8 (D[k]?.getD 0);rw[<-hd]at HG K;clear hd;cases dv with
   | none =>
     rw[show xN none=((0,0),false)from rfl]at HD;have HF:=ae (show dj A X D=false by rw[HE.o];exact dq hlt (by rw[HG.o];rfl));go_wp2_with fail;refine HD.o.mono ?_;rintro e w3 ⟨rfl,J⟩;have X3:=ae (X2.o.trans J);clear J K;obtain⟨E,G⟩:=b8 (w3.alloc (.cells #[.int .i64 0,.int .i64 0] 46));have XE:=ae (show Ext w3 E by rw[G];exact Ext.alloc _ _);go_upto_region 5 with fail;rw[<-G];clear G;have k7:Ext E E.drew:=Ext.drew E;refine wp_region_held_drew (S:=(fun w'=>Ext E w')) e8 ?_ (fun k9=>?_)
     ·exact k7
     refine tk 0 ?_;refine tk 1 ?_;refine tk 2 ?_;refine sk 3 ?_;refine sk 4 ?_;refine sk 5 ?_;refine sk 6 ?_;refine sk 7 ?_;refine sk 8 ?_;refine sk 9 ?_;refine tk 10 ?_;refine wpAnyH_done e8 ?_ _;go_wp2_with fail;go_ret;exact⟨ag HF.o.symm,((wM.o.trans X3.o).trans XE.o).trans k7⟩
   | some r =>
     obtain⟨r1,I⟩:=r;rw[show xN (some (r1,I))=((r1,I),true)from rfl]at HD;go_wp2_with fail;refine HD.o.mono ?_;rintro e w3 ⟨rfl,J⟩;replace K:=J.k6 K;have X3:=ae (X2.o.trans J);clear J;obtain⟨E,G⟩:=b8 (w3.alloc (.cells #[.int .i64 r1,.int .i64 I] 46));have U:Ext w3 E:=by rw[G];exact Ext.alloc _ _
     have XE:=ae (X3.o.trans U);have e0:=U.k6 K;have b0:E.cell? ⟨w3.heap.size,0,none⟩=some (.int .i64 r1):=by rw[G];simp
     have b1:E.cell? ⟨w3.heap.size,1,none⟩=some (.int .i64 I):=by rw[G];simp
     go_upto_region 5 with fail;rw[<-G];clear G K U;have yJ:(k:Int)<(O:Int):=by omega
     have FF:(0:Int)<=(k:Int):=by omega
     have k7:Ext E E.drew:=Ext.drew E;have k8:=ae (fun(w':World) (h:Ext E w')=>(⟨h.k6 e0,h.k6 b0,h.k6 b1,h⟩:w'.cell? ⟨db,EW+k,none⟩=some (.int .i64 d)/\w'.cell? ⟨w3.heap.size,0,none⟩=some (.int .i64 r1)/\w'.cell? ⟨w3.heap.size,1,none⟩=some (.int .i64 I)/\Ext E w'));have Vy:=ae (show gm A X D k=((r1 == d)&&(I == 1))by rw[HG.o,Bool.eq_iff_iff];simp);cases wO:(r1 == d)
     all_goals
      cases xM:(I == 1)
     all_goals
      have UH:=ae Vy.o;rw[wO,xM]at UH
      go_region_held3 (fun w'=>w'.cell? ⟨db,EW+k,none⟩=some (.int .i64 d)/\w'.cell? ⟨w3.heap.size,0,none⟩=some (.int .i64 r1)/\w'.cell? ⟨w3.heap.size,1,none⟩=some (.int .i64 I)/\Ext E w')
       (first
         | with_reducible exact k8.o _ k7)
       (first
         | (go_at_call 18
            (with_reducible refine(cG _ _).mono ?_)
            rintro e w5 ⟨rfl,zh⟩
            have k7:Ext E w5:=k7.trans zh)
         | fail)
      have X5:=ae (XE.o.trans k7);clear k7
     all_goals try(
      have HF:=ae (show dj A X D=false by rw[HE.o];exact dq hlt (by rw[UH.o];rfl));go_wp2_with fail;go_ret
      exact⟨ag HF.o.symm,wM.o.trans X5.o⟩)
     have HT:=ae (show(List.range (k+1)).all (gm A X D)=true by rw[gV,HA.o,UH.o];rfl);go_wp2_with fail
     go_roundg (g1-1)
     case measure=>have:=HK.o;omega
     case rel=>exact⟨k+1,ae (j4 HK.o),by go_num,HT,X5⟩
  ·have xQ:na=k:=by have:=HK.o;omega
   subst xQ;go_wp2_with fail;go_ret;exact⟨ag (by rw[HE.o,HA.o]),wM.o.trans HX.o⟩
section
variable{w:World}{a:j8}{na ca:Nat}{b:j8}{nb cb:Nat}{c:j8}{nc cc:Nat}{A:j7}{B:j9}{C:j6}
theorem cI(h:Cz w a na ca b nb cb c nc cc A B C)(ok:xF A B C=true):nc<=70/\na<=8/\nb=na/\(∀i,i<na->(A[i]?.getD []).length=nc)/\(∀i,i<na->(A[i]?.getD []).length<=70/\∀x∈A[i]?.getD [],-5000<=x/\x<=5000)/\∀x∈B,-5000<=x/\x<=5000:=by
 have l1:=h.a.hlen;have l2:=h.b.hlen;have l3:=h.c.hlen;rw[jr]at ok;simp only[Bool.and_eq_true,decide_eq_true_eq,List.all_eq_true,dR,wJ]at ok;obtain⟨h1,h2,h3,h4,h5,G⟩:=ok;have key:∀i,i<na->(A[i]?.getD []).length=nc/\∀x∈A[i]?.getD [],-5000<=x/\x<=5000:=by
  intro i hi;rw[List.getElem?_eq_getElem b9,Option.getD_some];have:=h5 _ (List.getElem_mem (l:=A) (n:=i) b9);exact⟨by omega,this.2⟩
 exact⟨by omega,by omega,by omega,fun i hi=>(key i hi).1,fun i hi=>⟨by have:=(key i hi).1;omega,(key i hi).2⟩,G⟩
theorem kp(h:Cz w a na ca b nb cb c nc cc A B C){xa:j8}{xn DV:Nat}{X:j6}(hX:r8 w xa xn DV X):
 Calls Tryz.prog 111 #[C8 a na ca b nb cb c nc cc,.slice xa xn DV] w fun e w'=>e=.returned (.bool (xF A B C&&dp A B C.length X))/\Ext w w':=by
 have wI:=Ext.alloc w (bE a na ca b nb cb c nc cc);have wM:=ae wI;have H:=ae (h.ext wI);have B9:=ae (hX.ext wI);have z8:=ae h.c.hlen;have BL:=ae h.a.hlen;have yq:=h.c.o3;have AZ:=h.c.l9;have HO:=ae (fun ok=>cI h ok);have HV:=ae (eF H.o);clear h hX wI;cases xq:xF A B C
 ·rw[xq]at HV;clear xq;go_enter Tryz.func111,Tryz.ntmps111
  go_wp2_with fail;refine HV.o.mono ?_;rintro e w1 ⟨rfl,hx⟩;have X1:=ae (wM.o.trans hx);clear hx;go_wp2_with fail;go_ret;exact⟨rfl,X1.o⟩
 ·rw[xq]at HV;have HR:=ae (HO.o xq);obtain⟨r1,r2,K,_,_,_⟩:=HO.o xq;subst K;have HN:=ae (fun(w':World) (hx:Ext (w.alloc (bE a nb ca b nb cb c nc cc)) w')=>jZ (B9.o.ext hx) nc);have HE:=ae (show(true&&dp A B C.length X)=((decide (X.length=nc)&&BC X)&&dj A X B)by unfold dp;rw[z8.o,Bool.true_and,Bool.and_assoc]);clear xq;cases hn:(decide (X.length=nc)&&BC X)
  ·rw[hn]at HN HE;clear hn;go_enter Tryz.func111,Tryz.ntmps111
   go_wp2_with fail;refine HV.o.mono ?_;rintro e w1 ⟨rfl,hx⟩;have G:w1.cell? ⟨w.heap.size,2,none⟩=some (.slice c nc cc):=hx.k6 e7;have X1:=ae hx;clear hx;go_wp2_with fail;refine(HN.o _ X1.o).mono ?_;rintro e w2 ⟨rfl,hx⟩;have X2:=ae ((wM.o.trans X1.o).trans hx);clear hx;go_wp2_with fail;go_ret;exact⟨ag (by rw[HE.o];rfl),X2.o⟩
  ·rw[hn]at HN HE;clear hn;go_enter Tryz.func111,Tryz.ntmps111
   go_wp2_with fail;refine HV.o.mono ?_;rintro e w1 ⟨rfl,hx⟩;have I:w1.cell? ⟨w.heap.size,0,none⟩=some (.slice a nb ca):=hx.k6 e7;have J:w1.cell? ⟨w.heap.size,1,none⟩=some (.slice b nb cb):=hx.k6 e7;have G:w1.cell? ⟨w.heap.size,2,none⟩=some (.slice c nc cc):=hx.k6 e7;have X1:=ae hx;clear hx;go_wp2_with fail;refine(HN.o _ X1.o).mono ?_;rintro e w2 ⟨rfl,hx⟩;replace I:=hx.k6 I;replace J:=hx.k6 J;replace G:=hx.k6 G;have X2:=ae (X1.o.trans hx);clear hx;have HG:=ae (sU (b:=b) (nb:=nb) (cb:=cb) (c:=c) (nc:=nc) (cc:=cc) (H.o.ext X2.o).a (B9.o.ext X2.o) (H.o.ext X2.o).b (Nat.le_refl _) HR.o.2.2.2.2.1);go_wp2_with fail;refine HG.o.mono ?_;rintro e w3 ⟨rfl,hx⟩;have X3:=ae ((wM.o.trans X2.o).trans hx);clear hx;go_wp2_with fail;go_ret;exact⟨ag (by rw[HE.o];rfl),X3.o⟩
end
structure Jb(w:World)(xa:j8)(xn xc:Nat)(ya:j8)(yn yc:Nat)(ra:j8)(rn rc:Nat)(r:AT):Prop where
 x:r8 w xa xn xc r.X
 y:r8 w ya yn yc r.Y
 A5:r8 w ra rn rc r.A5
theorem Jb.ext{w w':World}{xc:Nat}{ya:j8}{yn yc:Nat}{ra:j8}{rn rc:Nat}{r:AT}(h:Jb w xa xn xc ya yn yc ra rn rc r)(hx:Ext w w'):Jb w' xa xn xc ya yn yc ra rn rc r:=⟨h.x.ext hx,h.y.ext hx,h.A5.ext hx⟩
abbrev A6(r:AT)(xa:j8)(xn xc:Nat)(ya:j8)(yn yc:Nat)(ra:j8)(rn rc:Nat):Value :=
 .agg #[.int .i64 r.status,.slice xa xn xc,.slice ya yn yc,.slice ra rn rc,.int .i64 r.value.1,.int .i64 r.value.2,.int .i64 r.Hp]
abbrev ce(r:AT)(xa:j8)(xn xc:Nat)(ya:j8)(yn yc:Nat)(ra:j8)(rn rc:Nat):Obj :=
 .cells #[.int .i64 r.status,.slice xa xn xc,.slice ya yn yc,.slice ra rn rc,.int .i64 r.value.1,.int .i64 r.value.2,.int .i64 r.Hp] 56
theorem ic(h:∀i,i<A.length->∀x∈A[i]?.getD [],-5000<=x/\x<=5000)(j:Nat):∀x∈xD A j,-5000<=x/\x<=5000:=by
 intro x hx;obtain⟨r,hr,rfl⟩:=List.mem_map.1 hx;obtain⟨i,hi,rfl⟩:=List.mem_iff_getElem.1 hr;by_cases hj:j<A[i].length
 ·rw[List.getElem?_eq_getElem hj];exact h i hi _ (by rw[List.getElem?_eq_getElem hi];exact List.getElem_mem _)
 ·rw[List.getElem?_eq_none b9];simp
theorem lD(A:j7)(j:Nat):(xD A j).length=A.length:=by simp[xD]
theorem rQ{Y C:j6}{j:Nat}(h:wY Y (aw (xD A j))=none):aV A Y C j=false:=by unfold aV;rw[h]
theorem rR{Y C:j6}{j:Nat}{v c:k5}(h:wY Y (aw (xD A j))=some v)(hc:C[j]?.getD (0,0)=c):aV A Y C j=((xy c v).2&&decide (0<=(xy c v).1.1)):=by unfold aV;rw[h,hc]
def jG(x y:Option (Int×Int))(v:k5):Bool:=match x,y with|some x,some y=>decide (x=y)&&decide (x=v)|_,_=>false
theorem qS(B:j9)(C:j6)(r:AT):gR B C r=jG (wY C r.X) (wY r.Y (aw B)) r.value:=rfl
theorem jH(x:Option (Int×Int))(v:k5):jG none x v=false/\jG x none v=false:=by cases x<;>exact⟨rfl,rfl⟩
theorem mS(x1 x2 I G v1 v2:Int):jG (some (x1,x2)) (some (I,G)) (v1,v2)=(((x1 == I)&&(x2 == G))&&((x1 == v1)&&(x2 == v2))):=by
 simp only[jG];rw[Bool.eq_iff_iff];simp
section
variable{w:World}{a:j8}{na ca:Nat}{b:j8}{nb cb:Nat}{c:j8}{nc cc:Nat}{A:j7}{B:j9}{C:j6}
 {xa:j8} {xn xc:Nat} {ya:j8} {yn yc:Nat} {ra:j8} {rn rc:Nat} {r:AT}
structure Two(w W:World)(a:j8)(na ca:Nat)(b:j8)(nb cb:Nat)(c:j8)(nc cc:Nat)(xa:j8)(xn xc:Nat)(ya:j8)(yn yc:Nat)(ra:j8)(rn rc:Nat)(r:AT)(A:j7)(B:j9)(C:j6):Prop where
 ext:Ext ((w.alloc (bE a na ca b nb cb c nc cc)).alloc (ce r xa xn xc ya yn yc ra rn rc)) W
 lp:Cz W a na ca b nb cb c nc cc A B C
 lr:Jb W xa xn xc ya yn yc ra rn rc r
theorem Two.grow{W G:World}(h:Two w W a na ca b nb cb c nc cc xa xn xc ya yn yc ra rn rc r A B C)(hx:Ext W G):Two w G a na ca b nb cb c nc cc xa xn xc ya yn yc ra rn rc r A B C:=⟨h.ext.trans hx,h.lp.ext hx,h.lr.ext hx⟩
theorem Two.all{W:World}(h:Two w W a na ca b nb cb c nc cc xa xn xc ya yn yc ra rn rc r A B C):Ext w W:=((Ext.alloc _ _).trans (Ext.alloc _ _)).trans h.ext
theorem Two.p{W:World}(h:Two w W a na ca b nb cb c nc cc xa xn xc ya yn yc ra rn rc r A B C):W.cell? ⟨w.heap.size,0,none⟩=some (.slice a na ca)/\W.cell? ⟨w.heap.size,1,none⟩=some (.slice b nb cb)/\W.cell? ⟨w.heap.size,2,none⟩=some (.slice c nc cc) :=
 ⟨h.ext.k6 e7,h.ext.k6 e7,h.ext.k6 e7⟩
theorem Two.q{W:World}(h:Two w W a na ca b nb cb c nc cc xa xn xc ya yn yc ra rn rc r A B C):W.cell? ⟨w.heap.size+1,0,none⟩=some (.int .i64 r.status)/\W.cell? ⟨w.heap.size+1,1,none⟩=some (.slice xa xn xc)/\W.cell? ⟨w.heap.size+1,2,none⟩=some (.slice ya yn yc)/\W.cell? ⟨w.heap.size+1,3,none⟩=some (.slice ra rn rc)/\W.cell? ⟨w.heap.size+1,4,none⟩=some (.int .i64 r.value.1)/\W.cell? ⟨w.heap.size+1,5,none⟩=some (.int .i64 r.value.2) :=
 ⟨h.ext.k6 e7,h.ext.k6 e7,h.ext.k6 e7,h.ext.k6 e7,h.ext.k6 e7,h.ext.k6 e7⟩
theorem uc(h:Cz w a na ca b nb cb c nc cc A B C)(h':Jb w xa xn xc ya yn yc ra rn rc r)(ok:xF A B C=true)(hs:r.status=1):
 Calls Tryz.prog 63 #[C8 a na ca b nb cb c nc cc,A6 r xa xn xc ya yn yc ra rn rc] w fun e w'=>e=.returned (.bool (aD aV A B C r))/\Ext w w':=by
 obtain⟨r1,r2,r3,r4,r5,r6⟩:=cI h ok;subst r3;have T0:=ae (show Two w ((w.alloc (bE a nb ca b nb cb c nc cc)).alloc (ce r xa xn xc ya yn yc ra rn rc)) a nb ca b nb cb c nc cc xa xn xc ya yn yc ra rn rc r A B C from⟨Ext.refl _,(h.ext (Ext.alloc _ _)).ext (Ext.alloc _ _),(h'.ext (Ext.alloc _ _)).ext (Ext.alloc _ _)⟩);have xM:=h'.y.o3;have D1:=h'.y.l9;have yq:=h.c.o3;have AZ:=h.c.l9;have zN:=h.b.o3;have zx:=h.b.l9;have z8:=ae h.c.hlen;have y4:=ae h.b.hlen;have BL:=ae h.a.hlen;have Jh:=ae h'.y.hlen;have HE:=ae (show aD aV A B C r=(dp A B C.length r.X&&(decide (r.Y.length=B.length)&&((List.range C.length).all (aV A r.Y C)&&gR B C r)))by unfold aD;rw[if_pos hs]);have E8:=ae r4;have Gg:=ae (fun j=>ic (A:=A) (fun i hi=>(r5 i (j4 h.a.hlen)).2) j);have DQ:=ae r6;obtain⟨st,J,G,u,rv,rp⟩:=r;obtain⟨v1,v2⟩:=rv;simp only at hs HE Jh;subst hs;have HV:=ae (eF T0.o.lp);rw[ok]at HV;clear h h' r4 r5 r6;have IE:=ae (fun(W:World) (t:Two w W a nb ca b nb cb c nc cc xa xn xc ya yn yc ra rn rc ⟨1,J,G,u,(v1,v2),rp⟩ A B C)=>kp t.lp t.lr.x);rw[ok]at IE;simp only[Bool.true_and]at IE;cases hf:dp A B C.length J
 ·rw[hf]at IE HE;clear hf;go_enter Tryz.func63,Tryz.ntmps63
  go_wp2_with fail;refine HV.o.mono ?_;rintro e w1 ⟨rfl,hx⟩;have T1:=ae (T0.o.grow hx);obtain⟨p0,p1,p2⟩:=T1.o.p;obtain⟨q0,U,I,R,O,K⟩:=T1.o.q;clear hx;go_wp2_with fail;refine(IE.o _ T1.o).mono ?_;rintro e w2 ⟨rfl,hx⟩;have T2:=ae (T1.o.grow hx);clear hx;go_wp2_with fail;go_ret;exact⟨ag (by rw[HE.o];rfl),T2.o.all⟩
 ·rw[hf]at IE HE;clear hf;by_cases F0:yn=nb
  ·subst F0;have FA:((yn:Int) != (yn:Int))=false:=by simp
   have AE:=ae (show aD aV A B C ⟨1,J,G,u,(v1,v2),rp⟩=((List.range nc).all (aV A G C)&&gR B C ⟨1,J,G,u,(v1,v2),rp⟩)by rw[HE.o,Jh.o,y4.o,z8.o,decide_eq_true rfl];rfl);go_enter Tryz.func63,Tryz.ntmps63
   go_wp2_with fail;refine HV.o.mono ?_;rintro e w1 ⟨rfl,hx⟩;have T1:=ae (T0.o.grow hx);obtain⟨p0,p1,p2⟩:=T1.o.p;obtain⟨q0,U,I,R,O,K⟩:=T1.o.q;clear hx;go_wp2_with fail;refine(IE.o _ T1.o).mono ?_;rintro e w2 ⟨rfl,hx⟩;have T2:=ae (T1.o.grow hx);clear hx p0 p1 p2 q0 U I R O K;obtain⟨p0,p1,p2⟩:=T2.o.p;obtain⟨q0,U,I,R,O,K⟩:=T2.o.q;go_wp2_with fail
   go_loopg [46] nc (fun gk ii wr=>∃k:Nat,b7 (gk+k=nc)/\ii=.int .i64 (k:Int)/\b7 ((List.range k).all (aV A G C)=true)/\b7 (Two w wr a yn ca b yn cb c nc cc xa xn xc ya yn yc ra rn rc ⟨1,J,G,u,(v1,v2),rp⟩ A B C))
   case atStart=>exact⟨0,ae b9,rfl,ae rfl,T2⟩
   case round =>
    obtain⟨g1,r7⟩:=b8 gk;subst r7;obtain⟨o7,o6⟩:=b8 wr;subst o6;obtain⟨k,HK,rfl,HA,T⟩:=hrel;clear p0 p1 p2 q0 U I R O K;by_cases hlt:k<nc
    ·obtain⟨zb,xJ,cx,cy,Bt,xW,y9,CE⟩:=T.o.lp.c.at hlt;subst Bt;have CS:=ae xW;clear xW;obtain⟨E,hE⟩:=b8 (o7.alloc (.cells #[.int .i64 cx,.int .i64 cy] 46));have zw:Ext o7 E:=by rw[hE];exact Ext.alloc _ _
     have TE:=ae (T.o.grow zw);have Bh:=ae (show aj o7 E o7.heap.size cx cy by rw[hE];exact aj.new (Ext.refl _) _ _);go_upto_region 10 with fail;rw[<-hE];clear hE zw y9 CE;obtain⟨p0,p1,p2⟩:=TE.o.p;obtain⟨q0,U,I,R,O,K⟩:=TE.o.q;have B6:=ae (lD A k);obtain⟨dv,Bk⟩:=b8 (wY G (aw (xD A k)));have GS:=ae Bk.symm;obtain⟨d1,d2,DH,hdd⟩:∃x y ok,xN dv=((x,y),ok):=⟨_,_,_,rfl⟩;have CV:=ae hdd;have Iz:=ae (show dU (xD A k)=aw (xD A k)from fg (Gg.o k));clear Bk hdd;go_upto_region 10 with fail
     go_cut [7,8] (fun sx so wx=>∃g:Nat,sx=.pointer (some ⟨g,0,none⟩)/\so=.bool DH/\b7 (aj E wx g d1 d2))
     case first =>
      have k7:Ext E E.drew:=Ext.drew E;have xI:Ext E (E.alloc (.cells #[.int .i64 0,.int .i64 0] 46)).drew:=(Ext.alloc _ _).trans (Ext.drew _);have k8:=ae (fun(w':World) (h:Ext E w')=>(⟨h.k6 p0,h.k6 p1,h.k6 p2,h.k6 I,h⟩:w'.cell? ⟨w.heap.size,0,none⟩=some (.slice a yn ca)/\w'.cell? ⟨w.heap.size,1,none⟩=some (.slice b yn cb)/\w'.cell? ⟨w.heap.size,2,none⟩=some (.slice (some ⟨zb,xJ,none⟩) nc cc)/\w'.cell? ⟨w.heap.size+1,2,none⟩=some (.slice ya yn yc)/\Ext E w'))
      go_region_held3 (fun w'=>w'.cell? ⟨w.heap.size,0,none⟩=some (.slice a yn ca)/\w'.cell? ⟨w.heap.size,1,none⟩=some (.slice b yn cb)/\w'.cell? ⟨w.heap.size,2,none⟩=some (.slice (some ⟨zb,xJ,none⟩) nc cc)/\w'.cell? ⟨w.heap.size+1,2,none⟩=some (.slice ya yn yc)/\Ext E w')
       (first
         | with_reducible exact k8.o _ k7
         | with_reducible exact k8.o _ xI
         | with_reducible exact k8.o _ ((k7.setCell (by first|(simp;done)|(simp;omega)) _).setCell (by first|(simp;done)|(simp;omega)) _)
         | with_reducible exact k8.o _ (k7.trans (Ext.alloc _ _))
         | with_reducible exact k8.o _ (r9.put _ _).ext)
       (first
         | (go_at_call 113
            (with_reducible refine(qD (b:=b) (nb:=yn) (cb:=cb) (c:=some ⟨zb,xJ,none⟩) (nc:=nc) (cc:=cc) (TE.o.lp.a.ext (by first|with_reducible exact k7|with_reducible exact xI|with_reducible exact k7.trans (Ext.alloc _ _))) E8.o hlt b9 b9).mono ?_)
            rintro e w3 ⟨⟨v3,rfl,zS⟩,wN⟩;obtain⟨a3,n3,c3,rfl,G0⟩:=zS.var
            first|(with_reducible have r9:=aj.grow r9 wN)|(with_reducible have r9:=aj.xu wN)|(with_reducible have r9:=aj.xA k7 wN)|skip
            first|(have BQ:=r9.c0;have BP:=r9.c1;have C3:=r9.free)|skip
            have k7:Ext E w3:=by first|with_reducible exact k7.trans wN|with_reducible exact xI.trans wN|with_reducible exact(k7.trans (Ext.alloc _ _)).trans wN
            have zr:=k7.size)
         | (go_at_call 101
            (with_reducible refine(gX (by first|with_reducible exact zS.ints|with_reducible exact(zS.ext (Ext.alloc _ _)).ints) (by have:=G0.out;have:=B6.o;have:=BL.o;omega)).mono ?_)
            rw[Iz.o];rintro e w4 ⟨⟨v4,rfl,Ci⟩,xd⟩;obtain⟨a4,n4,c4,rfl,EF⟩:=Ci.var
            first|(with_reducible have r9:=aj.grow r9 xd)|(with_reducible have r9:=aj.xu xd)|(with_reducible have r9:=aj.xA k7 xd)|skip
            first|(have BQ:=r9.c0;have BP:=r9.c1;have C3:=r9.free)|skip
            have k7:Ext E w4:=by first|with_reducible exact k7.trans xd|with_reducible exact xI.trans xd|with_reducible exact(k7.trans (Ext.alloc _ _)).trans xd
            have zr:=k7.size)
         | (go_at_call 112
            (with_reducible refine(fK (TE.o.lr.y.ext (by first|with_reducible exact k7|with_reducible exact xI|with_reducible exact k7.trans (Ext.alloc _ _))) (by first|with_reducible exact Ci.wK|with_reducible exact(Ci.ext (Ext.alloc _ _)).wK)).mono ?_)
            rw[GS.o,CV.o];rintro e w5 ⟨rfl,Z⟩
            first|(with_reducible have r9:=aj.grow r9 Z)|(with_reducible have r9:=aj.xu Z)|(with_reducible have r9:=aj.xA k7 Z)|skip
            first|(have BQ:=r9.c0;have BP:=r9.c1;have C3:=r9.free)|skip
            have k7:Ext E w5:=by first|with_reducible exact k7.trans Z|with_reducible exact xI.trans Z|with_reducible exact(k7.trans (Ext.alloc _ _)).trans Z
            have zr:=k7.size)
         | fail)
      all_goals(go_wp2_with fail;go_meet;first|exact⟨_,rfl,rfl,ae (r9.put _ _)⟩|exact⟨_,rfl,rfl,ae (aj.new k7 _ _)⟩|exact⟨_,rfl,rfl,ae (aj.new' k7 _ _ e7)⟩)
     obtain⟨g,rfl,rfl,xT⟩:=hcut;have zV:=ae (Bh.o.grow xT.o.ext);have TW:=ae (TE.o.grow xT.o.ext);clear p0 p1 p2 q0 U I R O K;have c0:=zV.o.c0;have c1:=zV.o.c1;have g0:=xT.o.c0;have g1':=xT.o.c1;obtain⟨l1,l2,lok,ZK⟩:∃x y ok,xy (cx,cy) (d1,d2)=((x,y),ok):=⟨_,_,_,rfl⟩;have HSB:=ae (jB cx cy d1 d2 wc);rw[ZK]at HSB;have zR:=ae ZK;clear ZK;go_wp2_with fail;refine HSB.o.mono ?_;rintro e w6 ⟨rfl,hx⟩;have TX:=ae ((TW.o.grow hx).grow (Ext.alloc _ (.cells #[.int .i64 l1,.int .i64 l2] 46)));clear hx;cases dv with
     | none =>
       have CM:DH=false:=by have:=CV.o;simp only[xN]at this;simpa using (congrArg Prod.snd this).symm
       subst CM;have HF:=ae (show aD aV A B C ⟨1,J,G,u,(v1,v2),rp⟩=false by rw[AE.o,dq hlt (rQ GS.o)];rfl);go_wp2_with fail;go_ret;exact⟨ag HF.o.symm,TX.o.all⟩
     | some dvv =>
       have CM:DH=true:=by have:=CV.o;simp only[xN]at this;simpa using (congrArg Prod.snd this).symm
       have De:dvv=(d1,d2):=by have:=CV.o;simp only[xN]at this;simpa using congrArg Prod.fst this
       subst CM De;have GU:=ae (show aV A G C k=(lok&&decide (0<=l1))by rw[rR GS.o CS.o,zR.o]);cases lok
       ·have HF:=ae (show aD aV A B C ⟨1,J,G,u,(v1,v2),rp⟩=false by rw[AE.o,dq hlt (by rw[GU.o];rfl)];rfl);go_wp2_with fail;go_ret;exact⟨ag HF.o.symm,TX.o.all⟩
       ·by_cases hl0:l1<0
        ·have HF:=ae (show aD aV A B C ⟨1,J,G,u,(v1,v2),rp⟩=false by rw[AE.o,dq hlt (by rw[GU.o,decide_eq_false b9];rfl)];rfl);go_wp2_with fail;go_ret;exact⟨ag HF.o.symm,TX.o.all⟩
        ·have HT:=ae (show(List.range (k+1)).all (aV A G C)=true by rw[gV,HA.o,GU.o,decide_eq_true b9];rfl);go_wp2_with fail
         go_roundg (g1-1)
         case measure=>have:=HK.o;omega
         case rel=>exact⟨k+1,ae (j4 HK.o),by go_num,HT,TX⟩
    ·have xQ:nc=k:=by have:=HK.o;omega
     subst xQ;have Kw:=ae (show aD aV A B C ⟨1,J,G,u,(v1,v2),rp⟩=gR B C ⟨1,J,G,u,(v1,v2),rp⟩by rw[AE.o,HA.o];rfl);obtain⟨p0,p1,p2⟩:=T.o.p;obtain⟨q0,U,I,R,O,K⟩:=T.o.q;obtain⟨dx,F6⟩:=b8 (wY C J);obtain⟨dy,Ib⟩:=b8 (wY G (aw B));have HM:=ae (show gR B C ⟨1,J,G,u,(v1,v2),rp⟩=jG dx dy (v1,v2)by rw[qS,F6,Ib]);obtain⟨x1,x2,N',IM⟩:∃x y ok,xN dx=((x,y),ok):=⟨_,_,_,rfl⟩;obtain⟨y1,y2,Fx,L4⟩:∃x y ok,xN dy=((x,y),ok):=⟨_,_,_,rfl⟩;have B9:=ae IM;have F9:=ae L4;have Hg:=ae (fK T.o.lp.c T.o.lr.x);have N4:=ae Ib.symm;rw[<-F6,IM]at Hg;have xU:=ae (show dU B=aw B from fg DQ.o);clear F6 Ib IM L4;go_wp2_with fail;refine Hg.o.mono ?_;rintro e w3 ⟨rfl,hx⟩;clear p0 p1 p2 q0 U I R O K;obtain⟨E,hE⟩:=b8 (w3.alloc (.cells #[.int .i64 x1,.int .i64 x2] 46));have zw:Ext w3 E:=by rw[hE];exact Ext.alloc _ _
     have TE:=ae ((T.o.grow hx).grow zw);have Bh:=ae (show aj w3 E w3.heap.size x1 x2 by rw[hE];exact aj.new (Ext.refl _) _ _);go_upto_region 16 with fail;rw[<-hE];clear hE zw hx;obtain⟨p0,p1,p2⟩:=TE.o.p;obtain⟨q0,U,I,R,O,K⟩:=TE.o.q;go_upto_region 16 with fail
     go_cut [13,14] (fun sx so wx=>∃g:Nat,sx=.pointer (some ⟨g,0,none⟩)/\so=.bool Fx/\b7 (aj E wx g y1 y2))
     case first =>
      have k7:Ext E E.drew:=Ext.drew E;have xI:Ext E (E.alloc (.cells #[.int .i64 0,.int .i64 0] 46)).drew:=(Ext.alloc _ _).trans (Ext.drew _);have k8:=ae (fun(w':World) (h:Ext E w')=>(⟨h.k6 p1,h.k6 I,h⟩:w'.cell? ⟨w.heap.size,1,none⟩=some (.slice b yn cb)/\w'.cell? ⟨w.heap.size+1,2,none⟩=some (.slice ya yn yc)/\Ext E w'))
      go_region_held3 (fun w'=>w'.cell? ⟨w.heap.size,1,none⟩=some (.slice b yn cb)/\w'.cell? ⟨w.heap.size+1,2,none⟩=some (.slice ya yn yc)/\Ext E w')
       (first
         | with_reducible exact k8.o _ k7
         | with_reducible exact k8.o _ xI
         | with_reducible exact k8.o _ ((k7.setCell (by first|(simp;done)|(simp;omega)) _).setCell (by first|(simp;done)|(simp;omega)) _)
         | with_reducible exact k8.o _ (k7.trans (Ext.alloc _ _))
         | with_reducible exact k8.o _ (r9.put _ _).ext)
       (first
         | (go_at_call 101
            (with_reducible refine(gX (TE.o.lp.b.ext (by first|with_reducible exact k7|with_reducible exact xI|with_reducible exact k7.trans (Ext.alloc _ _))) b9).mono ?_)
            rw[xU.o];rintro e w4 ⟨⟨v4,rfl,Ci⟩,xd⟩;obtain⟨a4,n4,c4,rfl,EF⟩:=Ci.var
            first|(with_reducible have r9:=aj.grow r9 xd)|(with_reducible have r9:=aj.xu xd)|(with_reducible have r9:=aj.xA k7 xd)|skip
            first|(have BQ:=r9.c0;have BP:=r9.c1;have C3:=r9.free)|skip
            have k7:Ext E w4:=by first|with_reducible exact k7.trans xd|with_reducible exact xI.trans xd|with_reducible exact(k7.trans (Ext.alloc _ _)).trans xd
            have zr:=k7.size)
         | (go_at_call 112
            (with_reducible refine(fK (TE.o.lr.y.ext (by first|with_reducible exact k7|with_reducible exact xI|with_reducible exact k7.trans (Ext.alloc _ _))) (by first|with_reducible exact Ci.wK|with_reducible exact(Ci.ext (Ext.alloc _ _)).wK)).mono ?_)
            rw[N4.o,F9.o];rintro e w5 ⟨rfl,Z⟩
            first|(with_reducible have r9:=aj.grow r9 Z)|(with_reducible have r9:=aj.xu Z)|(with_reducible have r9:=aj.xA k7 Z)|skip
            first|(have BQ:=r9.c0;have BP:=r9.c1;have C3:=r9.free)|skip
            have k7:Ext E w5:=by first|with_reducible exact k7.trans Z|with_reducible exact xI.trans Z|with_reducible exact(k7.trans (Ext.alloc _ _)).trans Z
            have zr:=k7.size)
         | fail)
      all_goals(go_wp2_with fail;go_meet;first|exact⟨_,rfl,rfl,ae (r9.put _ _)⟩|exact⟨_,rfl,rfl,ae (aj.new k7 _ _)⟩|exact⟨_,rfl,rfl,ae (aj.new' k7 _ _ e7)⟩)
     obtain⟨g,rfl,rfl,xT⟩:=hcut;have zV:=ae (Bh.o.grow xT.o.ext);have TW:=ae (TE.o.grow xT.o.ext);clear p0 p1 p2 q0 U I R O K;obtain⟨p0,p1,p2⟩:=TW.o.p;obtain⟨q0,U,I,R,O,K⟩:=TW.o.q;have c0:=zV.o.c0;have c1:=zV.o.c1;have g0:=xT.o.c0;have g1':=xT.o.c1;cases dx with
     | none =>
       have CM:N'=false:=by have:=B9.o;simp only[xN]at this;simpa using (congrArg Prod.snd this).symm
       subst CM;go_wp2_with fail;go_ret;exact⟨ag (by rw[Kw.o,HM.o,(jH _ _).1]),TW.o.all⟩
     | some xv =>
       have CM:N'=true:=by have:=B9.o;simp only[xN]at this;simpa using (congrArg Prod.snd this).symm
       have De:xv=(x1,x2):=by have:=B9.o;simp only[xN]at this;simpa using congrArg Prod.fst this
       subst CM De;cases dy with
       | none =>
         have CM:Fx=false:=by have:=F9.o;simp only[xN]at this;simpa using (congrArg Prod.snd this).symm
         subst CM;go_wp2_with fail;go_ret;exact⟨ag (by rw[Kw.o,HM.o,(jH _ _).2]),TW.o.all⟩
       | some yv =>
         have CM:Fx=true:=by have:=F9.o;simp only[xN]at this;simpa using (congrArg Prod.snd this).symm
         have De:yv=(y1,y2):=by have:=F9.o;simp only[xN]at this;simpa using congrArg Prod.fst this
         subst CM De;have ID:=ae (show aD aV A B C ⟨1,J,G,u,(v1,v2),rp⟩=(((x1 == y1)&&(x2 == y2))&&((x1 == v1)&&(x2 == v2)))by rw[Kw.o,HM.o,mS]);cases h1:(x1 == y1)
         all_goals
          cases h2:(x2 == y2)
         all_goals
          have Ca:=ae ID.o;rw[h1,h2]at Ca
         all_goals try(
          have HF:=ae (show aD aV A B C ⟨1,J,G,u,(v1,v2),rp⟩=false by rw[Ca.o];rfl);go_wp2_with fail;go_ret
          exact⟨ag HF.o.symm,TW.o.all⟩)
         cases h3:(x1 == v1)
         all_goals
          cases h4:(x2 == v2)
         all_goals
          rw[h3,h4]at Ca;go_wp2_with fail;go_ret;exact⟨ag (by rw[Ca.o];rfl),TW.o.all⟩
  ·have FA:((yn:Int) != (nb:Int))=true:=by simp;omega
   have HF:=ae (show aD aV A B C ⟨1,J,G,u,(v1,v2),rp⟩=false by rw[HE.o,Jh.o,y4.o,decide_eq_false F0];rfl);go_enter Tryz.func63,Tryz.ntmps63
   go_wp2_with fail;refine HV.o.mono ?_;rintro e w1 ⟨rfl,hx⟩;have T1:=ae (T0.o.grow hx);obtain⟨p0,p1,p2⟩:=T1.o.p;obtain⟨q0,U,I,R,O,K⟩:=T1.o.q;clear hx;go_wp2_with fail;refine(IE.o _ T1.o).mono ?_;rintro e w2 ⟨rfl,hx⟩;have T2:=ae (T1.o.grow hx);clear hx p0 p1 p2 q0 U I R O K;obtain⟨p0,p1,p2⟩:=T2.o.p;obtain⟨q0,U,I,R,O,K⟩:=T2.o.q;go_wp2_with fail;go_ret;exact⟨ag HF.o.symm,T2.o.all⟩
end
def noO(x:Option (Int×Int)):Bool:=match x with|none=>false|some v=>decide (v.1<=0)
def Lr(x:Option (Int×Int)):Bool:=match x with|none=>false|some v=>decide (0<v.1)
def LG(x:Option (Int×Int)):Bool:=match x with|none=>false|some v=>decide (v.1<0)
def Pj(A:j7)(Y:j6)(j:Nat):Bool:=noO (wY Y (aw (xD A j)))
theorem mY(A:j7)(B:j9)(n:Nat)(Y:j6):kO A B n Y=((List.range n).all (Pj A Y)&&Lr (wY Y (aw B))):=rfl
theorem tr(A:j7)(B:j9)(C:j6)(A5:j6):O6 A B C A5=((decide (A5.length=C.length)&&BC A5)&&(dj A A5 (List.replicate B.length 0)&&LG (wY C A5))):=by
 unfold O6;rw[Bool.and_assoc];rfl
section
variable{w:World}{a:j8}{na ca:Nat}{b:j8}{nb cb:Nat}{c:j8}{nc cc:Nat}{A:j7}{B:j9}{C:j6}
 {xa:j8} {xn xc:Nat} {ya:j8} {yn yc:Nat} {ra:j8} {rn rc:Nat} {r:AT}
theorem ud(h:Cz w a na ca b nb cb c nc cc A B C)(h':Jb w xa xn xc ya yn yc ra rn rc r)(ok:xF A B C=true)(hs:r.status=2):
 Calls Tryz.prog 63 #[C8 a na ca b nb cb c nc cc,A6 r xa xn xc ya yn yc ra rn rc] w fun e w'=>e=.returned (.bool (aD aV A B C r))/\Ext w w':=by
 obtain⟨r1,r2,r3,r4,r5,r6⟩:=cI h ok;subst r3;have T0:=ae (show Two w ((w.alloc (bE a nb ca b nb cb c nc cc)).alloc (ce r xa xn xc ya yn yc ra rn rc)) a nb ca b nb cb c nc cc xa xn xc ya yn yc ra rn rc r A B C from⟨Ext.refl _,(h.ext (Ext.alloc _ _)).ext (Ext.alloc _ _),(h'.ext (Ext.alloc _ _)).ext (Ext.alloc _ _)⟩);have xM:=h'.y.o3;have D1:=h'.y.l9;have yq:=h.c.o3;have AZ:=h.c.l9;have zN:=h.b.o3;have zx:=h.b.l9;have z8:=ae h.c.hlen;have y4:=ae h.b.hlen;have BL:=ae h.a.hlen;have Jh:=ae h'.y.hlen;have HE:=ae (show aD aV A B C r=(decide (r.Y.length=B.length)&&kO A B C.length r.Y)by unfold aD;rw[if_neg b9,if_pos hs]);have E8:=ae r4;have Gg:=ae (fun j=>ic (A:=A) (fun i hi=>(r5 i (j4 h.a.hlen)).2) j);have DQ:=ae r6;obtain⟨st,u,I,U,rv,Z⟩:=r;obtain⟨v1,v2⟩:=rv;simp only at hs HE Jh;subst hs;have HV:=ae (eF T0.o.lp);rw[ok]at HV;clear h h' r4 r5 r6;have Hc:((2:Int) == 1)=false:=by decide
 by_cases F0:yn=nb
 ·subst F0;have FA:((yn:Int) != (yn:Int))=false:=by simp
  have AE:=ae (show aD aV A B C ⟨2,u,I,U,(v1,v2),Z⟩=((List.range nc).all (Pj A I)&&Lr (wY I (aw B)))by rw[HE.o,Jh.o,y4.o,z8.o,decide_eq_true rfl,mY];rfl);go_enter Tryz.func63,Tryz.ntmps63
  go_wp2_with fail;refine HV.o.mono ?_;rintro e w1 ⟨rfl,hx⟩;have T1:=ae (T0.o.grow hx);obtain⟨p0,p1,p2⟩:=T1.o.p;obtain⟨q0,q1,O,q3,q4,q5⟩:=T1.o.q;clear hx;go_wp2_with fail
  go_loopg [123] nc (fun gk ii wr=>∃k:Nat,b7 (gk+k=nc)/\ii=.int .i64 (k:Int)/\b7 ((List.range k).all (Pj A I)=true)/\b7 (Two w wr a yn ca b yn cb c nc cc xa xn xc ya yn yc ra rn rc ⟨2,u,I,U,(v1,v2),Z⟩ A B C))
  case atStart=>exact⟨0,ae b9,rfl,ae rfl,T1⟩
  case round =>
   obtain⟨g1,r7⟩:=b8 gk;subst r7;obtain⟨G,o6⟩:=b8 wr;subst o6;obtain⟨k,HK,rfl,HA,T⟩:=hrel;clear p0 p1 p2 q0 q1 O q3 q4 q5;by_cases hlt:k<nc
   ·go_upto_region 24 with fail;obtain⟨p0,p1,p2⟩:=T.o.p;obtain⟨q0,q1,O,q3,q4,q5⟩:=T.o.q;have B6:=ae (lD A k);obtain⟨dv,Bk⟩:=b8 (wY I (aw (xD A k)));have GS:=ae Bk.symm;obtain⟨d1,d2,DH,hdd⟩:∃x y ok,xN dv=((x,y),ok):=⟨_,_,_,rfl⟩;have CV:=ae hdd;have Iz:=ae (show dU (xD A k)=aw (xD A k)from fg (Gg.o k));have Kp:=ae (show Pj A I k=noO dv by unfold Pj;rw[Bk]);clear Bk hdd;go_upto_region 24 with fail
    go_cut [16,17] (fun sx so wx=>∃g:Nat,sx=.pointer (some ⟨g,0,none⟩)/\so=.bool DH/\b7 (aj G wx g d1 d2))
    case first =>
     have k7:Ext G G.drew:=Ext.drew G;have K:Ext G (G.alloc (.cells #[.int .i64 0,.int .i64 0] 46)).drew:=(Ext.alloc _ _).trans (Ext.drew _);have k8:=ae (fun(w':World) (h:Ext G w')=>(⟨h.k6 p0,h.k6 p1,h.k6 p2,h.k6 O,h⟩:w'.cell? ⟨w.heap.size,0,none⟩=some (.slice a yn ca)/\w'.cell? ⟨w.heap.size,1,none⟩=some (.slice b yn cb)/\w'.cell? ⟨w.heap.size,2,none⟩=some (.slice c nc cc)/\w'.cell? ⟨w.heap.size+1,2,none⟩=some (.slice ya yn yc)/\Ext G w'))
     go_region_held3 (fun w'=>w'.cell? ⟨w.heap.size,0,none⟩=some (.slice a yn ca)/\w'.cell? ⟨w.heap.size,1,none⟩=some (.slice b yn cb)/\w'.cell? ⟨w.heap.size,2,none⟩=some (.slice c nc cc)/\w'.cell? ⟨w.heap.size+1,2,none⟩=some (.slice ya yn yc)/\Ext G w')
      (first
        | with_reducible exact k8.o _ k7
        | with_reducible exact k8.o _ K
        | with_reducible exact k8.o _ ((k7.setCell (by first|(simp;done)|(simp;omega)) _).setCell (by first|(simp;done)|(simp;omega)) _)
        | with_reducible exact k8.o _ (k7.trans (Ext.alloc _ _))
        | with_reducible exact k8.o _ (r9.put _ _).ext)
      (first
        | (go_at_call 113
           (with_reducible refine(qD (b:=b) (nb:=yn) (cb:=cb) (c:=c) (nc:=nc) (cc:=cc) (T.o.lp.a.ext (by first|with_reducible exact k7|with_reducible exact K|with_reducible exact k7.trans (Ext.alloc _ _))) E8.o hlt b9 b9).mono ?_)
           rintro e w3 ⟨⟨v3,rfl,zS⟩,wN⟩;obtain⟨a3,n3,c3,rfl,G0⟩:=zS.var
           first|(with_reducible have r9:=aj.grow r9 wN)|(with_reducible have r9:=aj.xu wN)|(with_reducible have r9:=aj.xA k7 wN)|skip
           first|(have BQ:=r9.c0;have BP:=r9.c1;have C3:=r9.free)|skip
           have k7:Ext G w3:=by first|with_reducible exact k7.trans wN|with_reducible exact K.trans wN|with_reducible exact(k7.trans (Ext.alloc _ _)).trans wN
           have zr:=k7.size)
        | (go_at_call 101
           (with_reducible refine(gX (by first|with_reducible exact zS.ints|with_reducible exact(zS.ext (Ext.alloc _ _)).ints) (by have:=G0.out;have:=B6.o;have:=BL.o;omega)).mono ?_)
           rw[Iz.o];rintro e w4 ⟨⟨v4,rfl,R⟩,xd⟩;obtain⟨a4,n4,c4,rfl,EF⟩:=R.var
           first|(with_reducible have r9:=aj.grow r9 xd)|(with_reducible have r9:=aj.xu xd)|(with_reducible have r9:=aj.xA k7 xd)|skip
           first|(have BQ:=r9.c0;have BP:=r9.c1;have C3:=r9.free)|skip
           have k7:Ext G w4:=by first|with_reducible exact k7.trans xd|with_reducible exact K.trans xd|with_reducible exact(k7.trans (Ext.alloc _ _)).trans xd
           have zr:=k7.size)
        | (go_at_call 112
           (with_reducible refine(fK (T.o.lr.y.ext (by first|with_reducible exact k7|with_reducible exact K|with_reducible exact k7.trans (Ext.alloc _ _))) (by first|with_reducible exact R.wK|with_reducible exact(R.ext (Ext.alloc _ _)).wK)).mono ?_)
           rw[GS.o,CV.o];rintro e w5 ⟨rfl,J⟩
           first|(with_reducible have r9:=aj.grow r9 J)|(with_reducible have r9:=aj.xu J)|(with_reducible have r9:=aj.xA k7 J)|skip
           first|(have BQ:=r9.c0;have BP:=r9.c1;have C3:=r9.free)|skip
           have k7:Ext G w5:=by first|with_reducible exact k7.trans J|with_reducible exact K.trans J|with_reducible exact(k7.trans (Ext.alloc _ _)).trans J
           have zr:=k7.size)
        | fail)
     all_goals(go_wp2_with fail;go_meet;first|exact⟨_,rfl,rfl,ae (r9.put _ _)⟩|exact⟨_,rfl,rfl,ae (aj.new k7 _ _)⟩|exact⟨_,rfl,rfl,ae (aj.new' k7 _ _ e7)⟩)
    obtain⟨g,rfl,rfl,xT⟩:=hcut;have TW:=ae (T.o.grow xT.o.ext);clear p0 p1 p2 q0 q1 O q3 q4 q5;have g0:=xT.o.c0;cases dv with
    | none =>
      have CM:DH=false:=by have:=CV.o;simp only[xN]at this;simpa using (congrArg Prod.snd this).symm
      subst CM;have HF:=ae (show aD aV A B C ⟨2,u,I,U,(v1,v2),Z⟩=false by rw[AE.o,dq hlt (by rw[Kp.o];rfl)];rfl);go_wp2_with fail;go_ret;exact⟨ag HF.o.symm,TW.o.all⟩
    | some dvv =>
      have CM:DH=true:=by have:=CV.o;simp only[xN]at this;simpa using (congrArg Prod.snd this).symm
      have De:dvv=(d1,d2):=by have:=CV.o;simp only[xN]at this;simpa using congrArg Prod.fst this
      subst CM De;by_cases hl0:d1 > 0
      ·have HF:=ae (show aD aV A B C ⟨2,u,I,U,(v1,v2),Z⟩=false by rw[AE.o,dq hlt (by rw[Kp.o];exact decide_eq_false b9)];rfl);go_wp2_with fail;go_ret;exact⟨ag HF.o.symm,TW.o.all⟩
      ·have HT:=ae (show(List.range (k+1)).all (Pj A I)=true by rw[gV,HA.o,Kp.o,Bool.true_and];exact decide_eq_true b9);go_wp2_with fail
       go_roundg (g1-1)
       case measure=>have:=HK.o;omega
       case rel=>exact⟨k+1,ae (j4 HK.o),by go_num,HT,TW⟩
   ·have xQ:nc=k:=by have:=HK.o;omega
    subst xQ;have Kw:=ae (show aD aV A B C ⟨2,u,I,U,(v1,v2),Z⟩=Lr (wY I (aw B))by rw[AE.o,HA.o];rfl);obtain⟨dy,Ib⟩:=b8 (wY I (aw B));rw[<-Ib]at Kw;obtain⟨y1,y2,Fx,L4⟩:∃x y ok,xN dy=((x,y),ok):=⟨_,_,_,rfl⟩;have F9:=ae L4;have N4:=ae Ib.symm;have xU:=ae (show dU B=aw B from fg DQ.o);clear Ib L4;go_upto_region 28 with fail;obtain⟨p0,p1,p2⟩:=T.o.p;obtain⟨q0,q1,O,q3,q4,q5⟩:=T.o.q;go_upto_region 28 with fail
    go_cut [18,19] (fun sx so wx=>∃g:Nat,sx=.pointer (some ⟨g,0,none⟩)/\so=.bool Fx/\b7 (aj G wx g y1 y2))
    case first =>
     have k7:Ext G G.drew:=Ext.drew G;have K:Ext G (G.alloc (.cells #[.int .i64 0,.int .i64 0] 46)).drew:=(Ext.alloc _ _).trans (Ext.drew _);have k8:=ae (fun(w':World) (h:Ext G w')=>(⟨h.k6 p1,h.k6 O,h⟩:w'.cell? ⟨w.heap.size,1,none⟩=some (.slice b yn cb)/\w'.cell? ⟨w.heap.size+1,2,none⟩=some (.slice ya yn yc)/\Ext G w'))
     go_region_held3 (fun w'=>w'.cell? ⟨w.heap.size,1,none⟩=some (.slice b yn cb)/\w'.cell? ⟨w.heap.size+1,2,none⟩=some (.slice ya yn yc)/\Ext G w')
      (first
        | with_reducible exact k8.o _ k7
        | with_reducible exact k8.o _ K
        | with_reducible exact k8.o _ ((k7.setCell (by first|(simp;done)|(simp;omega)) _).setCell (by first|(simp;done)|(simp;omega)) _)
        | with_reducible exact k8.o _ (k7.trans (Ext.alloc _ _))
        | with_reducible exact k8.o _ (r9.put _ _).ext)
      (first
        | (go_at_call 101
           (with_reducible refine(gX (T.o.lp.b.ext (by first|with_reducible exact k7|with_reducible exact K|with_reducible exact k7.trans (Ext.alloc _ _))) b9).mono ?_)
           rw[xU.o];rintro e w4 ⟨⟨v4,rfl,R⟩,xd⟩;obtain⟨a4,n4,c4,rfl,EF⟩:=R.var
           first|(with_reducible have r9:=aj.grow r9 xd)|(with_reducible have r9:=aj.xu xd)|(with_reducible have r9:=aj.xA k7 xd)|skip
           first|(have BQ:=r9.c0;have BP:=r9.c1;have C3:=r9.free)|skip
           have k7:Ext G w4:=by first|with_reducible exact k7.trans xd|with_reducible exact K.trans xd|with_reducible exact(k7.trans (Ext.alloc _ _)).trans xd
           have zr:=k7.size)
        | (go_at_call 112
           (with_reducible refine(fK (T.o.lr.y.ext (by first|with_reducible exact k7|with_reducible exact K|with_reducible exact k7.trans (Ext.alloc _ _))) (by first|with_reducible exact R.wK|with_reducible exact(R.ext (Ext.alloc _ _)).wK)).mono ?_)
           rw[N4.o,F9.o];rintro e w5 ⟨rfl,J⟩
           first|(with_reducible have r9:=aj.grow r9 J)|(with_reducible have r9:=aj.xu J)|(with_reducible have r9:=aj.xA k7 J)|skip
           first|(have BQ:=r9.c0;have BP:=r9.c1;have C3:=r9.free)|skip
           have k7:Ext G w5:=by first|with_reducible exact k7.trans J|with_reducible exact K.trans J|with_reducible exact(k7.trans (Ext.alloc _ _)).trans J
           have zr:=k7.size)
        | fail)
     all_goals(go_wp2_with fail;go_meet;first|exact⟨_,rfl,rfl,ae (r9.put _ _)⟩|exact⟨_,rfl,rfl,ae (aj.new k7 _ _)⟩|exact⟨_,rfl,rfl,ae (aj.new' k7 _ _ e7)⟩)
    obtain⟨g,rfl,rfl,xT⟩:=hcut;have TW:=ae (T.o.grow xT.o.ext);clear p0 p1 p2 q0 q1 O q3 q4 q5;have g0:=xT.o.c0;cases dy with
    | none =>
      have CM:Fx=false:=by have:=F9.o;simp only[xN]at this;simpa using (congrArg Prod.snd this).symm
      subst CM;go_wp2_with fail;go_ret;exact⟨ag (by rw[Kw.o];rfl),TW.o.all⟩
    | some yv =>
      have CM:Fx=true:=by have:=F9.o;simp only[xN]at this;simpa using (congrArg Prod.snd this).symm
      have De:yv=(y1,y2):=by have:=F9.o;simp only[xN]at this;simpa using congrArg Prod.fst this
      subst CM De;by_cases AJ:y1 > 0
      ·go_wp2_with fail;go_ret;exact⟨ag (by rw[Kw.o];exact(decide_eq_true AJ).symm),TW.o.all⟩
      ·go_wp2_with fail;go_ret;exact⟨ag (by rw[Kw.o];exact(decide_eq_false b9).symm),TW.o.all⟩
 ·have FA:((yn:Int) != (nb:Int))=true:=by simp;omega
  have HF:=ae (show aD aV A B C ⟨2,u,I,U,(v1,v2),Z⟩=false by rw[HE.o,Jh.o,y4.o,decide_eq_false F0];rfl);go_enter Tryz.func63,Tryz.ntmps63
  go_wp2_with fail;refine HV.o.mono ?_;rintro e w1 ⟨rfl,hx⟩;have T1:=ae (T0.o.grow hx);obtain⟨p0,p1,p2⟩:=T1.o.p;obtain⟨q0,q1,O,q3,q4,q5⟩:=T1.o.q;clear hx;go_wp2_with fail;go_ret;exact⟨ag HF.o.symm,T1.o.all⟩
end
end Go.Proofs.YtalmoolkhcgmmaaGreat
