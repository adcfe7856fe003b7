import Derived.Test.YtdadoignenffgaaGreatDoorEbAllG17
import Derived.Test.YtdadoignenffgaaGreatDoorEbAllG15
import Derived.Test.YtdadoignenffgaaGreatDoorEbAllG10
set_option linter.unusedVariables false
set_option linter.unusedSimpArgs false
namespace Go.Proofs.YtdadoignenffgaaGreatDoor
variable{n:Nat}{w:World}{a:j6}
set_option maxHeartbeats 16000000
set_option maxRecDepth 100000
open Go.RowKit
section
variable{w:World}{a:j6}{na ca:Nat}{b:j6}{nb cb:Nat}{c:j6}{nc cc:Nat}{A:j5}{B:j7}{C:j4}
 {xa:j6} {xn xc:Nat} {ya:j6} {yn yc:Nat} {ra:j6} {rn rc:Nat} {r:BQ}
def Lo(A:j5)(B:j7)(C:j4)(r:BQ):Bool:=dZ A B C.length r.X&&(decide (r.Y.length=B.length)&&((List.range C.length).all (bp A r.Y C)&&iD B C r))
theorem uO(h:EA w a na ca b nb cb c nc cc A B C)(h':Lf w xa xn xc ya yn yc ra rn rc r)(ok:zM A B C=true):
 Calls Tryz.prog 172 #[DD a na ca b nb cb c nc cc,CC r xa xn xc ya yn yc ra rn rc] w fun e w'=>e=.returned (.bool (Lo A B C r))/\Ext w w':=by
 obtain⟨r1,r2,r3,r4,r5,r6⟩:=cQ h ok;subst r3;have T0:=ae (show Two w ((w.alloc (bj a nb ca b nb cb c nc cc)).alloc (bX r xa xn xc ya yn yc ra rn rc)) a nb ca b nb cb c nc cc xa xn xc ya yn yc ra rn rc r A B C from⟨Ext.refl _,(h.ext (Ext.alloc _ _)).ext (Ext.alloc _ _),(h'.ext (Ext.alloc _ _)).ext (Ext.alloc _ _)⟩);have An:=h'.y.l8;have EU:=h'.y.l9;have Ba:=h.c.l8;have CY:=h.c.l9;have AS:=h.b.l8;have AD:=h.b.l9;have A5:=ae ok;have P5:=ae (fI r6);obtain⟨st,K,J,Z,rv,rp⟩:=r;obtain⟨v1,v2⟩:=rv;have Li:=ae h'.y.hlen;obtain⟨fv,OA⟩:=b9 (dZ A B C.length K)
 have HE:=ae (show Lo A B C ⟨st,K,J,Z,(v1,v2),rp⟩=(fv&&(decide (yn=nb)&&((List.range C.length).all (bp A J C)&&iD B C ⟨st,K,J,Z,(v1,v2),rp⟩)))by
  unfold Lo;rw[OA,h.b.hlen];simp only;rw[show J.length=yn from h'.y.hlen])
 have HF:=ae (fun(W:World) (t:Two w W a nb ca b nb cb c nc cc xa xn xc ya yn yc ra rn rc ⟨st,K,J,Z,(v1,v2),rp⟩ A B C)=>lA t.lp A5.o t.lr.x);simp only[<-OA]at HF;obtain⟨dv,DJ⟩:=b9 ((List.range C.length).all (bp A J C));have HD:=ae (fun(W:World) (t:Two w W a nb ca b nb cb c nc cc xa xn xc ya yn yc ra rn rc ⟨st,K,J,Z,(v1,v2),rp⟩ A B C)=>tO t.lp A5.o t.lr.y t.lp.c (ao _));simp only[<-DJ]at HD;rw[<-DJ]at HE;clear h h' ok r4 r5 r6 OA DJ;obtain⟨V,hV⟩:=b9 (Lo A B C ⟨st,K,J,Z,(v1,v2),rp⟩);rw[<-hV];have O:=ae (hV.trans HE.o);clear hV HE;cases fv
 ·have HZ:=ae (show false=V by rw[O.o];rfl);go_enter ads,ac9
  obtain⟨p0,p1,p2⟩:=T0.o.p;obtain⟨I,q1,q2,q3,q4,G⟩:=T0.o.q;go_wp2_with fail;refine(HF.o _ T0.o).mono ?_;rintro e w1 ⟨rfl,hx⟩;have T1:=ae (T0.o.grow hx);clear hx p0 p1 p2 I q1 q2 q3 q4 G;go_wp2_with fail;go_ret;exact⟨ag HZ.o,T1.o.all⟩
 ·by_cases Em:yn=nb
  ·subst Em;have hne:((yn:Int) != (yn:Int))=false:=by simp
   cases dv
   ·have HZ:=ae (show false=V by rw[O.o];simp);go_enter ads,ac9
    obtain⟨p0,p1,p2⟩:=T0.o.p;obtain⟨I,q1,q2,q3,q4,G⟩:=T0.o.q;go_wp2_with fail;refine(HF.o _ T0.o).mono ?_;rintro e w1 ⟨rfl,hx⟩;have T1:=ae (T0.o.grow hx);clear hx p0 p1 p2 I q1 q2 q3 q4 G;obtain⟨p0,p1,p2⟩:=T1.o.p;obtain⟨I,q1,q2,q3,q4,G⟩:=T1.o.q;go_wp2_with fail;refine(HD.o _ T1.o).mono ?_;rintro e w2 ⟨rfl,hx⟩;have T2:=ae (T1.o.grow hx);clear hx p0 p1 p2 I q1 q2 q3 q4 G;go_wp2_with fail;go_ret;exact⟨ag HZ.o,T2.o.all⟩
   ·obtain⟨dx,I2⟩:=b9 (zr C K);obtain⟨dy,Kw⟩:=b9 (zr (az B) J)
    have HM:=ae (show V=km dx dy (v1,v2)by
     rw[O.o,I2,Kw];simp only[aad,decide_true];rw[sW];simp only;rw[jv J])
    have J9:=ae (fun(W:World) (t:Two w W a yn ca b yn cb c nc cc xa xn xc ya yn yc ra rn rc ⟨st,K,J,Z,(v1,v2),rp⟩ A B C)=>nG t.lp.c t.lr.x);have P7:=ae (fun(W:World) (t:Two w W a yn ca b yn cb c nc cc xa xn xc ya yn yc ra rn rc ⟨st,K,J,Z,(v1,v2),rp⟩ A B C)=>lU t.lp.b P5.o e7 t.lr.y);simp only[<-I2]at J9;simp only[<-Kw]at P7;clear I2 Kw;obtain⟨x1,x2,Qb,KV⟩:∃x1 x2 Qb,z7 dx=((x1,x2),Qb):=⟨_,_,_,rfl⟩;obtain⟨U,Q,Ih,JW⟩:∃U Q Ih,z7 dy=((U,Q),Ih):=⟨_,_,_,rfl⟩;have DL:=ae KV;have I3:=ae JW;simp only[KV]at J9;simp only[JW]at P7;clear KV JW;go_enter ads,ac9
    obtain⟨p0,p1,p2⟩:=T0.o.p;obtain⟨I,q1,q2,q3,q4,G⟩:=T0.o.q;go_wp2_with fail;refine(HF.o _ T0.o).mono ?_;rintro e w1 ⟨rfl,hx⟩;have T1:=ae (T0.o.grow hx);clear hx p0 p1 p2 I q1 q2 q3 q4 G;obtain⟨p0,p1,p2⟩:=T1.o.p;obtain⟨I,q1,q2,q3,q4,G⟩:=T1.o.q;go_wp2_with fail;refine(HD.o _ T1.o).mono ?_;rintro e w2 ⟨rfl,hx⟩;have T2:=ae (T1.o.grow hx);clear hx p0 p1 p2 I q1 q2 q3 q4 G;obtain⟨p0,p1,p2⟩:=T2.o.p;obtain⟨I,q1,q2,q3,q4,G⟩:=T2.o.q;go_wp2_with fail;refine(J9.o _ T2.o).mono ?_;rintro e w3 ⟨rfl,hx⟩;obtain⟨E,hE⟩:=b9 (w3.alloc (.cells #[.int .i64 x1,.int .i64 x2] 62));obtain⟨gx,hgx⟩:=b9 w3.heap.size;have B0:Ext w3 E:=by rw[hE];exact Ext.alloc _ _
    have TE:=ae ((T2.o.grow hx).grow B0);have EO:=ae (show ah w3 E gx x1 x2 by rw[hE,hgx];exact ah.new (Ext.refl _) _ _);go_upto_region 4 with fail;rw[<-hE,<-hgx];clear hE B0 hx hgx p0 p1 p2 I q1 q2 q3 q4 G;obtain⟨p0,p1,p2⟩:=TE.o.p;obtain⟨I,q1,q2,q3,q4,G⟩:=TE.o.q;go_wp2_with fail;refine(P7.o _ TE.o).mono ?_;rintro e w4 ⟨rfl,hx⟩;obtain⟨F,hF⟩:=b9 (w4.alloc (.cells #[.int .i64 U,.int .i64 Q] 62));obtain⟨gy,hgy⟩:=b9 w4.heap.size;have hxF:Ext w4 F:=by rw[hF];exact Ext.alloc _ _
    have TW:=ae ((TE.o.grow hx).grow hxF);have Ck:=ae (EO.o.grow (hx.trans hxF));have Ad:=ae (show ah w4 F gy U Q by rw[hF,hgy];exact ah.new (Ext.refl _) _ _);go_upto_region 5 with fail;rw[<-hF,<-hgy];clear hF hxF hx hgy p0 p1 p2 I q1 q2 q3 q4 G;obtain⟨p0,p1,p2⟩:=TW.o.p;obtain⟨I,q1,q2,q3,q4,G⟩:=TW.o.q;have c0:=Ck.o.c0;have c1:=Ck.o.c1;have g0:=Ad.o.c0;have g1':=Ad.o.c1;cases dx with
    | none =>
      have Er:Qb=false:=by have:=DL.o;simp only[z7]at this;simpa using (Jr Prod.snd this).symm
      subst Er;go_wp2_with fail;go_ret;exact⟨ag (by rw[HM.o,(ko _ _).1]),TW.o.all⟩
    | some xv =>
      have Er:Qb=true:=by have:=DL.o;simp only[z7]at this;simpa using (Jr Prod.snd this).symm
      have E0:xv=(x1,x2):=by have:=DL.o;simp only[z7]at this;simpa using Jr Prod.fst this
      subst Er E0;cases dy with
      | none =>
        have Er:Ih=false:=by have:=I3.o;simp only[z7]at this;simpa using (Jr Prod.snd this).symm
        subst Er;go_wp2_with fail;go_ret;exact⟨ag (by rw[HM.o,(ko _ _).2]),TW.o.all⟩
      | some yv =>
        have Er:Ih=true:=by have:=I3.o;simp only[z7]at this;simpa using (Jr Prod.snd this).symm
        have E0:yv=(U,Q):=by have:=I3.o;simp only[z7]at this;simpa using Jr Prod.fst this
        subst Er E0;have PV:=ae (show V=(((x1 == U)&&(x2 == Q))&&((x1 == v1)&&(x2 == v2)))by rw[HM.o,oN]);cases h1:(x1 == U)
        all_goals
         cases h2:(x2 == Q)
        all_goals
         have Fm:=ae PV.o;rw[h1,h2]at Fm
        all_goals try(
         have HF:=ae (show V=false by rw[Fm.o];rfl);go_wp2_with fail;go_ret
         exact⟨ag HF.o.symm,TW.o.all⟩)
        cases h3:(x1 == v1)
        all_goals
         cases h4:(x2 == v2)
        all_goals
         rw[h3,h4]at Fm;go_wp2_with fail;go_ret;exact⟨ag (by rw[Fm.o];rfl),TW.o.all⟩
  ·have hne:((yn:Int) != (nb:Int))=true:=by simp;omega
   have HZ:=ae (show false=V by rw[O.o,u' Em];rfl);go_enter ads,ac9
   obtain⟨p0,p1,p2⟩:=T0.o.p;obtain⟨I,q1,q2,q3,q4,G⟩:=T0.o.q;go_wp2_with fail;refine(HF.o _ T0.o).mono ?_;rintro e w1 ⟨rfl,hx⟩;have T1:=ae (T0.o.grow hx);clear hx p0 p1 p2 I q1 q2 q3 q4 G;obtain⟨p0,p1,p2⟩:=T1.o.p;obtain⟨I,q1,q2,q3,q4,G⟩:=T1.o.q;go_wp2_with fail;go_ret;exact⟨ag HZ.o,T1.o.all⟩
end
theorem xu{v:j8}(hv:o9 v=true):decide (0<=zV (0,1) v)=decide (v.1<=0):=by
 have hb:=aQ hv;unfold zV;rw[hI (by rw[hv];decide)];simp only;by_cases h:v.1<=0
 ·rw[hD e7,z' h]
  split<;>rfl
 ·rw[hI e7,u' h];rfl
theorem ut(A:j5)(Y:j4){D:j4}(G:∀j,j<n->D[j]?.getD (0,0)=(0,1)):(List.range n).all (bp A Y D)=(List.range n).all (Q6 A Y):=by
 rw[U9,Di,Di];have key:∀j,j<n->bp A Y D j=Q6 A Y j:=by
  intro j hj;unfold bp Q6 noO;rw[G j hj];cases hd:zr Y (az (zP A j))with
  | none=>rfl
  | some v=>exact xu (dT hd).2.1
 constructor
 ·intro h j hj;rw[<-key j (S4.1 hj)];exact h j hj
 ·intro h j hj;rw[key j (S4.1 hj)];exact h j hj
theorem tv{j:Nat}(h:j<n):(List.replicate n ((0:Int),(1:Int)))[j]?.getD (0,0)=(0,1):=by rw[aaI,hI h];rfl
section
variable{w:World}{a:j6}{na ca:Nat}{b:j6}{nb cb:Nat}{c:j6}{nc cc:Nat}{A:j5}{B:j7}{C:j4}
 {xa:j6} {xn xc:Nat} {ya:j6} {yn yc:Nat} {ra:j6} {rn rc:Nat} {r:BQ}
theorem wN(h:EA w a na ca b nb cb c nc cc A B C)(h':Lf w xa xn xc ya yn yc ra rn rc r)(ok:zM A B C=true)(hs:r.status=1):
 Calls Tryz.prog 108 #[DD a na ca b nb cb c nc cc,CC r xa xn xc ya yn yc ra rn rc] w fun e w'=>e=.returned (.bool (aK bp A B C r))/\Ext w w':=by
 obtain⟨r1,r2,r3,r4,r5,r6⟩:=cQ h ok;subst r3;have T0:=ae (show Two w ((w.alloc (bj a nb ca b nb cb c nc cc)).alloc (bX r xa xn xc ya yn yc ra rn rc)) a nb ca b nb cb c nc cc xa xn xc ya yn yc ra rn rc r A B C from⟨Ext.refl _,(h.ext (Ext.alloc _ _)).ext (Ext.alloc _ _),(h'.ext (Ext.alloc _ _)).ext (Ext.alloc _ _)⟩);have An:=h'.y.l8;have EU:=h'.y.l9;have AX:=h'.CB.l8;have B9:=h'.CB.l9;have Ba:=h.c.l8;have CY:=h.c.l9;have AS:=h.b.l8;have AD:=h.b.l9;have A5:=ae ok;have P5:=ae (fI r6);have I7:=ae r5;obtain⟨st,K,J,I,rv,G⟩:=r;obtain⟨v1,v2⟩:=rv;simp only at hs;subst hs;have Li:=ae h'.y.hlen;have AO:=ae h.b.hlen;have BE:=ae h.c.hlen;have A1:=ae h'.CB.hlen;have HV:=ae (ej T0.o.lp);rw[ok]at HV;obtain⟨V,U⟩:=b9 (aK bp A B C ⟨1,K,J,I,(v1,v2),G⟩);rw[<-U];have FQ:=ae (show V=Lo A B C ⟨1,K,J,I,(v1,v2),G⟩by rw[U];unfold aK Lo;rw[hI rfl]);have Hn:=ae (fun(W:World) (t:Two w W a nb ca b nb cb c nc cc xa xn xc ya yn yc ra rn rc ⟨1,K,J,I,(v1,v2),G⟩ A B C)=>uO t.lp t.lr A5.o);simp only[<-FQ.o]at Hn;clear h h' ok r4 r5 r6;clear U;go_enter adt,ac'
 obtain⟨p0,p1,p2⟩:=T0.o.p;obtain⟨Q,q1,q2,q3,q4,O⟩:=T0.o.q;go_wp2_with fail;refine HV.o.mono ?_;rintro e w1 ⟨rfl,hx⟩;have T1:=ae (T0.o.grow hx);clear hx p0 p1 p2 Q q1 q2 q3 q4 O;obtain⟨p0,p1,p2⟩:=T1.o.p;obtain⟨Q,q1,q2,q3,q4,O⟩:=T1.o.q;have Z:=ae (T1.o.ext.j9 (v:=.int .i64 G) (a:=⟨w.heap.size+1,6,none⟩) e8);have q6:=Z.o;go_wp2_with fail;refine(Hn.o _ T1.o).mono ?_;rintro e w2 ⟨rfl,hx⟩;have T2:=ae (T1.o.grow hx);clear hx p0 p1 p2 Q q1 q2 q3 q4 O q6;go_wp2_with fail;go_ret;exact⟨rfl,T2.o.all⟩
theorem wO(h:EA w a na ca b nb cb c nc cc A B C)(h':Lf w xa xn xc ya yn yc ra rn rc r)(ok:zM A B C=true)(hs:r.status=2):
 Calls Tryz.prog 108 #[DD a na ca b nb cb c nc cc,CC r xa xn xc ya yn yc ra rn rc] w fun e w'=>e=.returned (.bool (aK bp A B C r))/\Ext w w':=by
 obtain⟨r1,r2,r3,r4,r5,r6⟩:=cQ h ok;subst r3;have T0:=ae (show Two w ((w.alloc (bj a nb ca b nb cb c nc cc)).alloc (bX r xa xn xc ya yn yc ra rn rc)) a nb ca b nb cb c nc cc xa xn xc ya yn yc ra rn rc r A B C from⟨Ext.refl _,(h.ext (Ext.alloc _ _)).ext (Ext.alloc _ _),(h'.ext (Ext.alloc _ _)).ext (Ext.alloc _ _)⟩);have An:=h'.y.l8;have EU:=h'.y.l9;have AX:=h'.CB.l8;have B9:=h'.CB.l9;have Ba:=h.c.l8;have CY:=h.c.l9;have AS:=h.b.l8;have AD:=h.b.l9;have A5:=ae ok;have P5:=ae (fI r6);have I7:=ae r5;obtain⟨st,rX,Q,rr,rv,rp⟩:=r;obtain⟨v1,v2⟩:=rv;simp only at hs;subst hs;have Li:=ae h'.y.hlen;have AO:=ae h.b.hlen;have BE:=ae h.c.hlen;have A1:=ae h'.CB.hlen;have HV:=ae (ej T0.o.lp);rw[ok]at HV;obtain⟨V,hV⟩:=b9 (aK bp A B C ⟨2,rX,Q,rr,(v1,v2),rp⟩);rw[<-hV];obtain⟨dv,DJ⟩:=b9 ((List.range C.length).all (bp A Q (List.replicate nc (0,1))));obtain⟨dy,Kw⟩:=b9 (zr (az B) Q)
 have FQ:=ae (show V=(decide (yn=nb)&&(dv&&Nq dy))by
  rw[hV,DJ,Kw];unfold aK;rw[hD e8,hI rfl];simp only;rw[oR,AO.o,show Q.length=yn from Li.o,jv Q,ut A Q (fun j hj=>tv (by rw[<-BE.o];exact hj))])
 have TC:=ae (fun(W:World) (t:Two w W a nb ca b nb cb c nc cc xa xn xc ya yn yc ra rn rc ⟨2,rX,Q,rr,(v1,v2),rp⟩ A B C) (za:j6) (zn zc:Nat) (hz:Rats W za zn zc (List.replicate nc (0,1))) (Lp:nc<=zn)=>tO t.lp A5.o t.lr.y hz Lp);have P7:=ae (fun(W:World) (t:Two w W a nb ca b nb cb c nc cc xa xn xc ya yn yc ra rn rc ⟨2,rX,Q,rr,(v1,v2),rp⟩ A B C)=>lU t.lp.b P5.o e7 t.lr.y);simp only[<-DJ]at TC;simp only[<-Kw]at P7;obtain⟨G,J,Ih,JW⟩:∃G J Ih,z7 dy=((G,J),Ih):=⟨_,_,_,rfl⟩;simp only[JW]at P7
 have I3:=ae (show Nq dy=(Ih&&decide (0<G))by
  cases dy with
  | none=>simp only[z7]at JW;cases JW;rfl
  | some v=>obtain⟨z1,z2⟩:=v;simp only[z7,l',aa7,aaG]at JW;obtain⟨⟨rfl,rfl⟩,rfl⟩:=JW;rfl)
 clear h h' ok r4 r5 r6;clear hV DJ Kw JW;have CE:((2:Int) == 1)=false:=by decide
 go_enter adt,ac'
 obtain⟨p0,p1,p2⟩:=T0.o.p;obtain⟨q0,q1,q2,q3,q4,q5⟩:=T0.o.q;go_wp2_with fail;refine HV.o.mono ?_;rintro e w1 ⟨rfl,hx⟩;have T1:=ae (T0.o.grow hx);clear hx p0 p1 p2 q0 q1 q2 q3 q4 q5;obtain⟨p0,p1,p2⟩:=T1.o.p;obtain⟨q0,q1,q2,q3,q4,q5⟩:=T1.o.q;go_wp2_with fail;refine(P7.o _ T1.o).mono ?_;rintro e w2 ⟨rfl,hx⟩;obtain⟨E,hE⟩:=b9 (w2.alloc (.cells #[.int .i64 G,.int .i64 J] 62));obtain⟨I,Z⟩:=b9 w2.heap.size;have B0:Ext w2 E:=by rw[hE];exact Ext.alloc _ _
 have TE:=ae ((T1.o.grow hx).grow B0);have EO:=ae (show ah w2 E I G J by rw[hE,Z];exact ah.new (Ext.refl _) _ _);go_upto_region 8 with fail;rw[<-hE,<-Z];clear hE B0 hx Z p0 p1 p2 q0 q1 q2 q3 q4 q5;obtain⟨p0,p1,p2⟩:=TE.o.p;obtain⟨q0,q1,q2,q3,q4,q5⟩:=TE.o.q;have b0:=EO.o.c0;have b1:=EO.o.c1;have k7:Ext E E.drew:=Ext.drew E;have k8:=ae (fun(w':World) (h:Ext E w')=>(⟨h.j9 p0,h.j9 p1,h.j9 p2,h.j9 q2,h.j9 b0,h.j9 b1,h⟩:w'.cell? ⟨w.heap.size,0,none⟩=some (.slice a nb ca)/\w'.cell? ⟨w.heap.size,1,none⟩=some (.slice b nb cb)/\w'.cell? ⟨w.heap.size,2,none⟩=some (.slice c nc cc)/\w'.cell? ⟨w.heap.size+1,2,none⟩=some (.slice ya yn yc)/\w'.cell? ⟨I,0,none⟩=some (.int .i64 G)/\w'.cell? ⟨I,1,none⟩=some (.int .i64 J)/\Ext E w'));by_cases Em:yn=nb
 ·have hne:((yn:Int) == (nb:Int))=true:=by simp;omega
  have Qs:=ae Em;clear Em;cases dv
  ·have HZ:=ae (show false=V by rw[FQ.o];simp);refine rN (S:=(fun w'=>w'.cell? ⟨w.heap.size,0,none⟩=some (.slice a nb ca)/\w'.cell? ⟨w.heap.size,1,none⟩=some (.slice b nb cb)/\w'.cell? ⟨w.heap.size,2,none⟩=some (.slice c nc cc)/\w'.cell? ⟨w.heap.size+1,2,none⟩=some (.slice ya yn yc)/\w'.cell? ⟨I,0,none⟩=some (.int .i64 G)/\w'.cell? ⟨I,1,none⟩=some (.int .i64 J)/\Ext E w')) e9 ?_ (fun O=>?_)
   ·exact k8.o _ k7
   refine tk 0 ?_;refine tk 1 ?_;refine tk 2 ?_;refine tk 3 ?_;refine tk 4 ?_;refine tk 5 ?_;refine tk 6 ?_;refine tk 7 ?_;refine tk 8 ?_;refine tk 9 ?_;refine tk 10 ?_;refine tk 11 ?_;refine tk 12 ?_;refine tk 13 ?_;refine rd (i:=14) (h:=fun K hK=>?_);go_simp
   (go_at_call 175;refine(lD nc e7).mono ?_;rintro e w3 ⟨⟨v3,rfl,U⟩,zm⟩;have k7:=k7.trans zm;obtain⟨a3,n3,c3,rfl,Ff⟩:=U.var;have Ju:nc<=n3:=by(have h1:=Ff.out;rw[O5]at h1;omega))
   go_wp2_with fail;refine hK.out _ _ ?_ (fun O=>?_)
   ·exact k8.o _ k7
   clear hK K
   try simp only[Act.put,sA,sB,sC]
   refine rd (i:=15) (h:=fun K hK=>?_);go_simp
   (go_at_call 174;refine(TC.o _ (TE.o.grow k7) _ _ _ U.zj Ju).mono ?_;rintro e w4 ⟨rfl,zX⟩;have k7:=k7.trans zX)
   go_wp2_with fail;refine hK.out _ _ ?_ (fun O=>?_)
   ·exact k8.o _ k7
   clear hK K
   try simp only[Act.put,sA,sB,sC]
   refine tk 16 ?_;refine tk 17 ?_;refine sk 18 ?_;refine tk 19 ?_;refine tk 20 ?_;refine sk 21 ?_;refine sk 22 ?_;refine sk 23 ?_;refine tk 24 ?_;refine tk 25 ?_;refine Gh e9 ?_ _;go_wp2_with fail;go_ret;exact⟨ag HZ.o,(TE.o.grow k7).all⟩
  ·cases Ih
   ·have HZ:=ae (show false=V by rw[FQ.o,I3.o,z' Qs.o];simp);refine rN (S:=(fun w'=>w'.cell? ⟨w.heap.size,0,none⟩=some (.slice a nb ca)/\w'.cell? ⟨w.heap.size,1,none⟩=some (.slice b nb cb)/\w'.cell? ⟨w.heap.size,2,none⟩=some (.slice c nc cc)/\w'.cell? ⟨w.heap.size+1,2,none⟩=some (.slice ya yn yc)/\w'.cell? ⟨I,0,none⟩=some (.int .i64 G)/\w'.cell? ⟨I,1,none⟩=some (.int .i64 J)/\Ext E w')) e9 ?_ (fun O=>?_)
    ·exact k8.o _ k7
    refine tk 0 ?_;refine tk 1 ?_;refine tk 2 ?_;refine tk 3 ?_;refine tk 4 ?_;refine tk 5 ?_;refine tk 6 ?_;refine tk 7 ?_;refine tk 8 ?_;refine tk 9 ?_;refine tk 10 ?_;refine tk 11 ?_;refine tk 12 ?_;refine tk 13 ?_;refine rd (i:=14) (h:=fun K hK=>?_);go_simp
    (go_at_call 175;refine(lD nc e7).mono ?_;rintro e w3 ⟨⟨v3,rfl,U⟩,zm⟩;have k7:=k7.trans zm;obtain⟨a3,n3,c3,rfl,Ff⟩:=U.var;have Ju:nc<=n3:=by(have h1:=Ff.out;rw[O5]at h1;omega))
    go_wp2_with fail;refine hK.out _ _ ?_ (fun O=>?_)
    ·exact k8.o _ k7
    clear hK K
    try simp only[Act.put,sA,sB,sC]
    refine rd (i:=15) (h:=fun K hK=>?_);go_simp
    (go_at_call 174;refine(TC.o _ (TE.o.grow k7) _ _ _ U.zj Ju).mono ?_;rintro e w4 ⟨rfl,zX⟩;have k7:=k7.trans zX)
    go_wp2_with fail;refine hK.out _ _ ?_ (fun O=>?_)
    ·exact k8.o _ k7
    clear hK K
    try simp only[Act.put,sA,sB,sC]
    refine tk 16 ?_;refine tk 17 ?_;refine tk 18 ?_;refine tk 19 ?_;refine tk 20 ?_;refine sk 21 ?_;refine sk 22 ?_;refine sk 23 ?_;refine tk 24 ?_;refine tk 25 ?_;refine Gh e9 ?_ _;go_wp2_with fail;go_ret;exact⟨ag HZ.o,(TE.o.grow k7).all⟩
   ·have HZ:=ae (show decide (0<G)=V by rw[FQ.o,I3.o,z' Qs.o];simp);refine rN (S:=(fun w'=>w'.cell? ⟨w.heap.size,0,none⟩=some (.slice a nb ca)/\w'.cell? ⟨w.heap.size,1,none⟩=some (.slice b nb cb)/\w'.cell? ⟨w.heap.size,2,none⟩=some (.slice c nc cc)/\w'.cell? ⟨w.heap.size+1,2,none⟩=some (.slice ya yn yc)/\w'.cell? ⟨I,0,none⟩=some (.int .i64 G)/\w'.cell? ⟨I,1,none⟩=some (.int .i64 J)/\Ext E w')) e9 ?_ (fun O=>?_)
    ·exact k8.o _ k7
    refine tk 0 ?_;refine tk 1 ?_;refine tk 2 ?_;refine tk 3 ?_;refine tk 4 ?_;refine tk 5 ?_;refine tk 6 ?_;refine tk 7 ?_;refine tk 8 ?_;refine tk 9 ?_;refine tk 10 ?_;refine tk 11 ?_;refine tk 12 ?_;refine tk 13 ?_;refine rd (i:=14) (h:=fun K hK=>?_);go_simp
    (go_at_call 175;refine(lD nc e7).mono ?_;rintro e w3 ⟨⟨v3,rfl,U⟩,zm⟩;have k7:=k7.trans zm;obtain⟨a3,n3,c3,rfl,Ff⟩:=U.var;have Ju:nc<=n3:=by(have h1:=Ff.out;rw[O5]at h1;omega))
    go_wp2_with fail;refine hK.out _ _ ?_ (fun O=>?_)
    ·exact k8.o _ k7
    clear hK K
    try simp only[Act.put,sA,sB,sC]
    refine rd (i:=15) (h:=fun K hK=>?_);go_simp
    (go_at_call 174;refine(TC.o _ (TE.o.grow k7) _ _ _ U.zj Ju).mono ?_;rintro e w4 ⟨rfl,zX⟩;have k7:=k7.trans zX)
    go_wp2_with fail;refine hK.out _ _ ?_ (fun O=>?_)
    ·exact k8.o _ k7
    clear hK K
    try simp only[Act.put,sA,sB,sC]
    refine tk 16 ?_;refine tk 17 ?_;refine tk 18 ?_;refine tk 19 ?_;refine tk 20 ?_;refine tk 21 ?_;refine tk 22 ?_;refine tk 23 ?_;refine tk 24 ?_;refine tk 25 ?_;refine Gh e9 ?_ _;go_wp2_with fail;go_ret;exact⟨ag HZ.o,(TE.o.grow k7).all⟩
 ·have hne:((yn:Int) == (nb:Int))=false:=by simp;omega
  have HZ:=ae (show false=V by rw[FQ.o,u' Em];rfl);clear Em;refine rN (S:=(fun w'=>w'.cell? ⟨w.heap.size,0,none⟩=some (.slice a nb ca)/\w'.cell? ⟨w.heap.size,1,none⟩=some (.slice b nb cb)/\w'.cell? ⟨w.heap.size,2,none⟩=some (.slice c nc cc)/\w'.cell? ⟨w.heap.size+1,2,none⟩=some (.slice ya yn yc)/\w'.cell? ⟨I,0,none⟩=some (.int .i64 G)/\w'.cell? ⟨I,1,none⟩=some (.int .i64 J)/\Ext E w')) e9 ?_ (fun O=>?_)
  ·exact k8.o _ k7
  refine tk 0 ?_;refine tk 1 ?_;refine tk 2 ?_;refine tk 3 ?_;refine tk 4 ?_;refine tk 5 ?_;refine tk 6 ?_;refine tk 7 ?_;refine sk 8 ?_;refine sk 9 ?_;refine sk 10 ?_;refine sk 11 ?_;refine sk 12 ?_;refine sk 13 ?_;refine sk 14 ?_;refine sk 15 ?_;refine tk 16 ?_;refine tk 17 ?_;refine sk 18 ?_;refine tk 19 ?_;refine tk 20 ?_;refine sk 21 ?_;refine sk 22 ?_;refine sk 23 ?_;refine tk 24 ?_;refine tk 25 ?_;refine Gh e9 ?_ _;go_wp2_with fail;go_ret;exact⟨ag HZ.o,(TE.o.grow k7).all⟩
theorem wP(h:EA w a na ca b nb cb c nc cc A B C)(h':Lf w xa xn xc ya yn yc ra rn rc r)(ok:zM A B C=true)(hs:r.status=3):
 Calls Tryz.prog 108 #[DD a na ca b nb cb c nc cc,CC r xa xn xc ya yn yc ra rn rc] w fun e w'=>e=.returned (.bool (aK bp A B C r))/\Ext w w':=by
 obtain⟨r1,r2,r3,r4,r5,r6⟩:=cQ h ok;subst r3;have T0:=ae (show Two w ((w.alloc (bj a nb ca b nb cb c nc cc)).alloc (bX r xa xn xc ya yn yc ra rn rc)) a nb ca b nb cb c nc cc xa xn xc ya yn yc ra rn rc r A B C from⟨Ext.refl _,(h.ext (Ext.alloc _ _)).ext (Ext.alloc _ _),(h'.ext (Ext.alloc _ _)).ext (Ext.alloc _ _)⟩);have An:=h'.y.l8;have EU:=h'.y.l9;have AX:=h'.CB.l8;have B9:=h'.CB.l9;have Ba:=h.c.l8;have CY:=h.c.l9;have AS:=h.b.l8;have AD:=h.b.l9;have A5:=ae ok;have P5:=ae (fI r6);have I7:=ae r5;obtain⟨st,Z,rY,O,rv,rp⟩:=r;obtain⟨v1,v2⟩:=rv;simp only at hs;subst hs;have Li:=ae h'.y.hlen;have AO:=ae h.b.hlen;have BE:=ae h.c.hlen;have A1:=ae h'.CB.hlen;have HV:=ae (ej T0.o.lp);rw[ok]at HV;obtain⟨V,hV⟩:=b9 (aK bp A B C ⟨3,Z,rY,O,(v1,v2),rp⟩);rw[<-hV];obtain⟨fv,OA⟩:=b9 (dZ A B C.length Z);obtain⟨pv,D5⟩:=b9 (DN O);obtain⟨gv,Fv⟩:=b9 (dC A O (List.replicate nb 0));obtain⟨dx,I2⟩:=b9 (zr C O)
 have FQ:=ae (show V=(fv&&((decide (rn=nc)&&pv)&&(gv&&Nz dx)))by
  rw[hV,OA,D5,Fv,I2];unfold aK;rw[hD e8,hD e8,hI rfl];simp only;rw[vu,AO.o,BE.o,show O.length=rn from A1.o])
 have HF:=ae (fun(W:World) (t:Two w W a nb ca b nb cb c nc cc xa xn xc ya yn yc ra rn rc ⟨3,Z,rY,O,(v1,v2),rp⟩ A B C)=>lA t.lp A5.o t.lr.x);have HN:=ae (fun(W:World) (t:Two w W a nb ca b nb cb c nc cc xa xn xc ya yn yc ra rn rc ⟨3,Z,rY,O,(v1,v2),rp⟩ A B C)=>jC t.lr.CB);have Ly:=gh nb e7;have Gv:=ae (fun(W:World) (t:Two w W a nb ca b nb cb c nc cc xa xn xc ya yn yc ra rn rc ⟨3,Z,rY,O,(v1,v2),rp⟩ A B C)=>qZ (b:=b) (nb:=nb) (cb:=cb) (c:=c) (nc:=nc) (cc:=cc) (t.grow (Ext.alloc W (.cells (be (List.replicate nb 0)) 3))).lp.a (t.grow (Ext.alloc W (.cells (be (List.replicate nb 0)) 3))).lr.CB (Row.ints (show Row (W.alloc (.cells (be (List.replicate nb 0)) 3)) W.heap.size 3 (List.replicate nb 0)from L' _ _) e8 (ao nb) e7) (ao _) I7.o);have J9:=ae (fun(W:World) (t:Two w W a nb ca b nb cb c nc cc xa xn xc ya yn yc ra rn rc ⟨3,Z,rY,O,(v1,v2),rp⟩ A B C)=>nG t.lp.c t.lr.CB);simp only[<-OA]at HF;simp only[<-D5]at HN;simp only[<-Fv]at Gv;simp only[<-I2]at J9;obtain⟨x1,x2,Qb,KV⟩:∃y1 y2 Ih,z7 dx=((y1,y2),Ih):=⟨_,_,_,rfl⟩;simp only[KV]at J9
 have DL:=ae (show Nz dx=(Qb&&decide (x1<0))by
  cases dx with
  | none=>simp only[z7]at KV;cases KV;rfl
  | some v=>obtain⟨z1,z2⟩:=v;simp only[z7,l',aa7,aaG]at KV;obtain⟨⟨rfl,rfl⟩,rfl⟩:=KV;rfl)
 clear h h' ok r4 r5 r6;clear hV OA D5 Fv I2 KV;have CE:((3:Int) == 1)=false:=by decide
 have B6:((3:Int) == 2)=false:=by decide
 go_enter adt,ac'
 obtain⟨p0,p1,p2⟩:=T0.o.p;obtain⟨q0,q1,q2,q3,q4,q5⟩:=T0.o.q;go_wp2_with fail;refine HV.o.mono ?_;rintro e w1 ⟨rfl,hx⟩;have T1:=ae (T0.o.grow hx);clear hx p0 p1 p2 q0 q1 q2 q3 q4 q5;obtain⟨p0,p1,p2⟩:=T1.o.p;obtain⟨q0,q1,q2,q3,q4,q5⟩:=T1.o.q;go_wp2_with fail;refine(J9.o _ T1.o).mono ?_;rintro e w2 ⟨rfl,hx⟩;obtain⟨E,hE⟩:=b9 (w2.alloc (.cells #[.int .i64 x1,.int .i64 x2] 62));obtain⟨I,U⟩:=b9 w2.heap.size;have B0:Ext w2 E:=by rw[hE];exact Ext.alloc _ _
 have TE:=ae ((T1.o.grow hx).grow B0);have EO:=ae (show ah w2 E I x1 x2 by rw[hE,U];exact ah.new (Ext.refl _) _ _);go_upto_region 11 with fail;rw[<-hE,<-U];clear hE B0 hx U p0 p1 p2 q0 q1 q2 q3 q4 q5;obtain⟨p0,p1,p2⟩:=TE.o.p;obtain⟨q0,q1,q2,q3,q4,q5⟩:=TE.o.q;have b0:=EO.o.c0;have b1:=EO.o.c1;have k7:Ext E E.drew:=Ext.drew E;have k8:=ae (fun(w':World) (h:Ext E w')=>(⟨h.j9 p0,h.j9 p1,h.j9 p2,h.j9 q1,h.j9 q3,h.j9 b0,h.j9 b1,h⟩:w'.cell? ⟨w.heap.size,0,none⟩=some (.slice a nb ca)/\w'.cell? ⟨w.heap.size,1,none⟩=some (.slice b nb cb)/\w'.cell? ⟨w.heap.size,2,none⟩=some (.slice c nc cc)/\w'.cell? ⟨w.heap.size+1,1,none⟩=some (.slice xa xn xc)/\w'.cell? ⟨w.heap.size+1,3,none⟩=some (.slice ra rn rc)/\w'.cell? ⟨I,0,none⟩=some (.int .i64 x1)/\w'.cell? ⟨I,1,none⟩=some (.int .i64 x2)/\Ext E w'));cases fv
 ·have HZ:=ae (show false=V by rw[FQ.o];rfl);refine rN (S:=(fun w'=>w'.cell? ⟨w.heap.size,0,none⟩=some (.slice a nb ca)/\w'.cell? ⟨w.heap.size,1,none⟩=some (.slice b nb cb)/\w'.cell? ⟨w.heap.size,2,none⟩=some (.slice c nc cc)/\w'.cell? ⟨w.heap.size+1,1,none⟩=some (.slice xa xn xc)/\w'.cell? ⟨w.heap.size+1,3,none⟩=some (.slice ra rn rc)/\w'.cell? ⟨I,0,none⟩=some (.int .i64 x1)/\w'.cell? ⟨I,1,none⟩=some (.int .i64 x2)/\Ext E w')) e9 ?_ (fun G=>?_)
  ·exact k8.o _ k7
  refine tk 0 ?_;refine tk 1 ?_;refine tk 2 ?_;refine rd (i:=3) (h:=fun K hK=>?_);go_simp
  (go_at_call 177;refine(HF.o _ (TE.o.grow k7)).mono ?_;rintro e w3 ⟨rfl,J⟩;have k7:=k7.trans J)
  go_wp2_with fail;refine hK.out _ _ ?_ (fun G=>?_)
  ·exact k8.o _ k7
  clear hK K
  try simp only[Act.put,sA,sB,sC]
  refine tk 4 ?_;refine sk 5 ?_;refine sk 6 ?_;refine sk 7 ?_;refine sk 8 ?_;refine sk 9 ?_;refine sk 10 ?_;refine sk 11 ?_;refine tk 12 ?_;refine tk 13 ?_;refine sk 14 ?_;refine sk 15 ?_;refine sk 16 ?_;refine tk 17 ?_;refine tk 18 ?_;refine sk 19 ?_;refine sk 20 ?_;refine sk 21 ?_;refine sk 22 ?_;refine sk 23 ?_;refine sk 24 ?_;refine sk 25 ?_;refine sk 26 ?_;refine tk 27 ?_;refine tk 28 ?_;refine sk 29 ?_;refine tk 30 ?_;refine tk 31 ?_;refine sk 32 ?_;refine sk 33 ?_;refine sk 34 ?_;refine tk 35 ?_;refine tk 36 ?_;refine Gh e9 ?_ _;go_wp2_with fail;go_ret;exact⟨ag HZ.o,(TE.o.grow k7).all⟩
 ·by_cases CP:rn=nc
  ·have hne:((rn:Int) == (nc:Int))=true:=by simp;omega
   have Qy:=ae CP;clear CP;cases pv
   ·have HZ:=ae (show false=V by rw[FQ.o];simp);refine rN (S:=(fun w'=>w'.cell? ⟨w.heap.size,0,none⟩=some (.slice a nb ca)/\w'.cell? ⟨w.heap.size,1,none⟩=some (.slice b nb cb)/\w'.cell? ⟨w.heap.size,2,none⟩=some (.slice c nc cc)/\w'.cell? ⟨w.heap.size+1,1,none⟩=some (.slice xa xn xc)/\w'.cell? ⟨w.heap.size+1,3,none⟩=some (.slice ra rn rc)/\w'.cell? ⟨I,0,none⟩=some (.int .i64 x1)/\w'.cell? ⟨I,1,none⟩=some (.int .i64 x2)/\Ext E w')) e9 ?_ (fun G=>?_)
    ·exact k8.o _ k7
    refine tk 0 ?_;refine tk 1 ?_;refine tk 2 ?_;refine rd (i:=3) (h:=fun K hK=>?_);go_simp
    (go_at_call 177;refine(HF.o _ (TE.o.grow k7)).mono ?_;rintro e w3 ⟨rfl,J⟩;have k7:=k7.trans J)
    go_wp2_with fail;refine hK.out _ _ ?_ (fun G=>?_)
    ·exact k8.o _ k7
    clear hK K
    try simp only[Act.put,sA,sB,sC]
    refine tk 4 ?_;refine tk 5 ?_;refine tk 6 ?_;refine tk 7 ?_;refine tk 8 ?_;refine tk 9 ?_;refine tk 10 ?_;refine tk 11 ?_;refine tk 12 ?_;refine tk 13 ?_;refine tk 14 ?_;refine tk 15 ?_;refine rd (i:=16) (h:=fun K hK=>?_);go_simp
    (go_at_call 178;refine(HN.o _ (TE.o.grow k7)).mono ?_;rintro e w4 ⟨rfl,Q⟩;have k7:=k7.trans Q)
    go_wp2_with fail;refine hK.out _ _ ?_ (fun G=>?_)
    ·exact k8.o _ k7
    clear hK K
    try simp only[Act.put,sA,sB,sC]
    refine tk 17 ?_;refine tk 18 ?_;refine sk 19 ?_;refine sk 20 ?_;refine sk 21 ?_;refine sk 22 ?_;refine sk 23 ?_;refine sk 24 ?_;refine sk 25 ?_;refine sk 26 ?_;refine tk 27 ?_;refine tk 28 ?_;refine sk 29 ?_;refine tk 30 ?_;refine tk 31 ?_;refine sk 32 ?_;refine sk 33 ?_;refine sk 34 ?_;refine tk 35 ?_;refine tk 36 ?_;refine Gh e9 ?_ _;go_wp2_with fail;go_ret;exact⟨ag HZ.o,(TE.o.grow k7).all⟩
   ·cases gv
    ·have HZ:=ae (show false=V by rw[FQ.o];simp);refine rN (S:=(fun w'=>w'.cell? ⟨w.heap.size,0,none⟩=some (.slice a nb ca)/\w'.cell? ⟨w.heap.size,1,none⟩=some (.slice b nb cb)/\w'.cell? ⟨w.heap.size,2,none⟩=some (.slice c nc cc)/\w'.cell? ⟨w.heap.size+1,1,none⟩=some (.slice xa xn xc)/\w'.cell? ⟨w.heap.size+1,3,none⟩=some (.slice ra rn rc)/\w'.cell? ⟨I,0,none⟩=some (.int .i64 x1)/\w'.cell? ⟨I,1,none⟩=some (.int .i64 x2)/\Ext E w')) e9 ?_ (fun G=>?_)
     ·exact k8.o _ k7
     refine tk 0 ?_;refine tk 1 ?_;refine tk 2 ?_;refine rd (i:=3) (h:=fun K hK=>?_);go_simp
     (go_at_call 177;refine(HF.o _ (TE.o.grow k7)).mono ?_;rintro e w3 ⟨rfl,J⟩;have k7:=k7.trans J)
     go_wp2_with fail;refine hK.out _ _ ?_ (fun G=>?_)
     ·exact k8.o _ k7
     clear hK K
     try simp only[Act.put,sA,sB,sC]
     refine tk 4 ?_;refine tk 5 ?_;refine tk 6 ?_;refine tk 7 ?_;refine tk 8 ?_;refine tk 9 ?_;refine tk 10 ?_;refine tk 11 ?_;refine tk 12 ?_;refine tk 13 ?_;refine tk 14 ?_;refine tk 15 ?_;refine rd (i:=16) (h:=fun K hK=>?_);go_simp
     (go_at_call 178;refine(HN.o _ (TE.o.grow k7)).mono ?_;rintro e w4 ⟨rfl,Q⟩;have k7:=k7.trans Q)
     go_wp2_with fail;refine hK.out _ _ ?_ (fun G=>?_)
     ·exact k8.o _ k7
     clear hK K
     try simp only[Act.put,sA,sB,sC]
     refine tk 17 ?_;refine tk 18 ?_;refine tk 19 ?_;refine tk 20 ?_;refine tk 21 ?_;refine tk 22 ?_;refine tk 23 ?_;refine tk 24 ?_;have TG:=ae (TE.o.grow k7);have S3:=k7;have k7:=S3.trans (Ext.alloc w4 (.cells (be (List.replicate nb 0)) 3));refine rd (i:=25) (h:=fun K hK=>?_);go_simp;refine hK.out _ _ ?_ (fun G=>?_)
     ·exact k8.o _ k7
     clear hK K
     try simp only[Act.put,sA,sB,sC]
     refine rd (i:=26) (h:=fun K hK=>?_);go_simp
     (go_at_call 179;refine(Gv.o _ TG.o).mono ?_;rintro e w5 ⟨rfl,AK⟩;have k7:=k7.trans AK)
     go_wp2_with fail;refine hK.out _ _ ?_ (fun G=>?_)
     ·exact k8.o _ k7
     clear hK K
     try simp only[Act.put,sA,sB,sC]
     refine tk 27 ?_;refine tk 28 ?_;refine sk 29 ?_;refine tk 30 ?_;refine tk 31 ?_;refine sk 32 ?_;refine sk 33 ?_;refine sk 34 ?_;refine tk 35 ?_;refine tk 36 ?_;refine Gh e9 ?_ _;go_wp2_with fail;go_ret;exact⟨ag HZ.o,(TE.o.grow k7).all⟩
    ·cases Qb
     ·have HZ:=ae (show false=V by rw[FQ.o,DL.o,z' Qy.o];simp);refine rN (S:=(fun w'=>w'.cell? ⟨w.heap.size,0,none⟩=some (.slice a nb ca)/\w'.cell? ⟨w.heap.size,1,none⟩=some (.slice b nb cb)/\w'.cell? ⟨w.heap.size,2,none⟩=some (.slice c nc cc)/\w'.cell? ⟨w.heap.size+1,1,none⟩=some (.slice xa xn xc)/\w'.cell? ⟨w.heap.size+1,3,none⟩=some (.slice ra rn rc)/\w'.cell? ⟨I,0,none⟩=some (.int .i64 x1)/\w'.cell? ⟨I,1,none⟩=some (.int .i64 x2)/\Ext E w')) e9 ?_ (fun G=>?_)
      ·exact k8.o _ k7
      refine tk 0 ?_;refine tk 1 ?_;refine tk 2 ?_;refine rd (i:=3) (h:=fun K hK=>?_);go_simp
      (go_at_call 177;refine(HF.o _ (TE.o.grow k7)).mono ?_;rintro e w3 ⟨rfl,J⟩;have k7:=k7.trans J)
      go_wp2_with fail;refine hK.out _ _ ?_ (fun G=>?_)
      ·exact k8.o _ k7
      clear hK K
      try simp only[Act.put,sA,sB,sC]
      refine tk 4 ?_;refine tk 5 ?_;refine tk 6 ?_;refine tk 7 ?_;refine tk 8 ?_;refine tk 9 ?_;refine tk 10 ?_;refine tk 11 ?_;refine tk 12 ?_;refine tk 13 ?_;refine tk 14 ?_;refine tk 15 ?_;refine rd (i:=16) (h:=fun K hK=>?_);go_simp
      (go_at_call 178;refine(HN.o _ (TE.o.grow k7)).mono ?_;rintro e w4 ⟨rfl,Q⟩;have k7:=k7.trans Q)
      go_wp2_with fail;refine hK.out _ _ ?_ (fun G=>?_)
      ·exact k8.o _ k7
      clear hK K
      try simp only[Act.put,sA,sB,sC]
      refine tk 17 ?_;refine tk 18 ?_;refine tk 19 ?_;refine tk 20 ?_;refine tk 21 ?_;refine tk 22 ?_;refine tk 23 ?_;refine tk 24 ?_;have TG:=ae (TE.o.grow k7);have S3:=k7;have k7:=S3.trans (Ext.alloc w4 (.cells (be (List.replicate nb 0)) 3));refine rd (i:=25) (h:=fun K hK=>?_);go_simp;refine hK.out _ _ ?_ (fun G=>?_)
      ·exact k8.o _ k7
      clear hK K
      try simp only[Act.put,sA,sB,sC]
      refine rd (i:=26) (h:=fun K hK=>?_);go_simp
      (go_at_call 179;refine(Gv.o _ TG.o).mono ?_;rintro e w5 ⟨rfl,AK⟩;have k7:=k7.trans AK)
      go_wp2_with fail;refine hK.out _ _ ?_ (fun G=>?_)
      ·exact k8.o _ k7
      clear hK K
      try simp only[Act.put,sA,sB,sC]
      refine tk 27 ?_;refine tk 28 ?_;refine tk 29 ?_;refine tk 30 ?_;refine tk 31 ?_;refine sk 32 ?_;refine sk 33 ?_;refine sk 34 ?_;refine tk 35 ?_;refine tk 36 ?_;refine Gh e9 ?_ _;go_wp2_with fail;go_ret;exact⟨ag HZ.o,(TE.o.grow k7).all⟩
     ·have HZ:=ae (show decide (x1<0)=V by rw[FQ.o,DL.o,z' Qy.o];simp);refine rN (S:=(fun w'=>w'.cell? ⟨w.heap.size,0,none⟩=some (.slice a nb ca)/\w'.cell? ⟨w.heap.size,1,none⟩=some (.slice b nb cb)/\w'.cell? ⟨w.heap.size,2,none⟩=some (.slice c nc cc)/\w'.cell? ⟨w.heap.size+1,1,none⟩=some (.slice xa xn xc)/\w'.cell? ⟨w.heap.size+1,3,none⟩=some (.slice ra rn rc)/\w'.cell? ⟨I,0,none⟩=some (.int .i64 x1)/\w'.cell? ⟨I,1,none⟩=some (.int .i64 x2)/\Ext E w')) e9 ?_ (fun G=>?_)
      ·exact k8.o _ k7
      refine tk 0 ?_;refine tk 1 ?_;refine tk 2 ?_;refine rd (i:=3) (h:=fun K hK=>?_);go_simp
      (go_at_call 177;refine(HF.o _ (TE.o.grow k7)).mono ?_;rintro e w3 ⟨rfl,J⟩;have k7:=k7.trans J)
      go_wp2_with fail;refine hK.out _ _ ?_ (fun G=>?_)
      ·exact k8.o _ k7
      clear hK K
      try simp only[Act.put,sA,sB,sC]
      refine tk 4 ?_;refine tk 5 ?_;refine tk 6 ?_;refine tk 7 ?_;refine tk 8 ?_;refine tk 9 ?_;refine tk 10 ?_;refine tk 11 ?_;refine tk 12 ?_;refine tk 13 ?_;refine tk 14 ?_;refine tk 15 ?_;refine rd (i:=16) (h:=fun K hK=>?_);go_simp
      (go_at_call 178;refine(HN.o _ (TE.o.grow k7)).mono ?_;rintro e w4 ⟨rfl,Q⟩;have k7:=k7.trans Q)
      go_wp2_with fail;refine hK.out _ _ ?_ (fun G=>?_)
      ·exact k8.o _ k7
      clear hK K
      try simp only[Act.put,sA,sB,sC]
      refine tk 17 ?_;refine tk 18 ?_;refine tk 19 ?_;refine tk 20 ?_;refine tk 21 ?_;refine tk 22 ?_;refine tk 23 ?_;refine tk 24 ?_;have TG:=ae (TE.o.grow k7);have S3:=k7;have k7:=S3.trans (Ext.alloc w4 (.cells (be (List.replicate nb 0)) 3));refine rd (i:=25) (h:=fun K hK=>?_);go_simp;refine hK.out _ _ ?_ (fun G=>?_)
      ·exact k8.o _ k7
      clear hK K
      try simp only[Act.put,sA,sB,sC]
      refine rd (i:=26) (h:=fun K hK=>?_);go_simp
      (go_at_call 179;refine(Gv.o _ TG.o).mono ?_;rintro e w5 ⟨rfl,AK⟩;have k7:=k7.trans AK)
      go_wp2_with fail;refine hK.out _ _ ?_ (fun G=>?_)
      ·exact k8.o _ k7
      clear hK K
      try simp only[Act.put,sA,sB,sC]
      refine tk 27 ?_;refine tk 28 ?_;refine tk 29 ?_;refine tk 30 ?_;refine tk 31 ?_;refine tk 32 ?_;refine tk 33 ?_;refine tk 34 ?_;refine tk 35 ?_;refine tk 36 ?_;refine Gh e9 ?_ _;go_wp2_with fail;go_ret;exact⟨ag HZ.o,(TE.o.grow k7).all⟩
  ·have hne:((rn:Int) == (nc:Int))=false:=by simp;omega
   have HZ:=ae (show false=V by rw[FQ.o,u' CP];rfl);clear CP;refine rN (S:=(fun w'=>w'.cell? ⟨w.heap.size,0,none⟩=some (.slice a nb ca)/\w'.cell? ⟨w.heap.size,1,none⟩=some (.slice b nb cb)/\w'.cell? ⟨w.heap.size,2,none⟩=some (.slice c nc cc)/\w'.cell? ⟨w.heap.size+1,1,none⟩=some (.slice xa xn xc)/\w'.cell? ⟨w.heap.size+1,3,none⟩=some (.slice ra rn rc)/\w'.cell? ⟨I,0,none⟩=some (.int .i64 x1)/\w'.cell? ⟨I,1,none⟩=some (.int .i64 x2)/\Ext E w')) e9 ?_ (fun G=>?_)
   ·exact k8.o _ k7
   refine tk 0 ?_;refine tk 1 ?_;refine tk 2 ?_;refine rd (i:=3) (h:=fun K hK=>?_);go_simp
   (go_at_call 177;refine(HF.o _ (TE.o.grow k7)).mono ?_;rintro e w3 ⟨rfl,J⟩;have k7:=k7.trans J)
   go_wp2_with fail;refine hK.out _ _ ?_ (fun G=>?_)
   ·exact k8.o _ k7
   clear hK K
   try simp only[Act.put,sA,sB,sC]
   refine tk 4 ?_;refine tk 5 ?_;refine tk 6 ?_;refine tk 7 ?_;refine tk 8 ?_;refine tk 9 ?_;refine tk 10 ?_;refine tk 11 ?_;refine tk 12 ?_;refine tk 13 ?_;refine sk 14 ?_;refine sk 15 ?_;refine sk 16 ?_;refine tk 17 ?_;refine tk 18 ?_;refine sk 19 ?_;refine sk 20 ?_;refine sk 21 ?_;refine sk 22 ?_;refine sk 23 ?_;refine sk 24 ?_;refine sk 25 ?_;refine sk 26 ?_;refine tk 27 ?_;refine tk 28 ?_;refine sk 29 ?_;refine tk 30 ?_;refine tk 31 ?_;refine sk 32 ?_;refine sk 33 ?_;refine sk 34 ?_;refine tk 35 ?_;refine tk 36 ?_;refine Gh e9 ?_ _;go_wp2_with fail;go_ret;exact⟨ag HZ.o,(TE.o.grow k7).all⟩
theorem yC(h:EA w a na ca b nb cb c nc cc A B C)(h':Lf w xa xn xc ya yn yc ra rn rc r)(ok:zM A B C=true):
 Calls Tryz.prog 108 #[DD a na ca b nb cb c nc cc,CC r xa xn xc ya yn yc ra rn rc] w fun e w'=>e=.returned (.bool (aK bp A B C r))/\Ext w w':=by
 by_cases h1:r.status=1
 ·exact wN h h' ok h1
 by_cases h2:r.status=2
 ·exact wO h h' ok h2
 by_cases h3:r.status=3
 ·exact wP h h' ok h3
 have HE:=ae (show aK bp A B C r=false by unfold aK;rw[hD h1,hD h2,hD h3]);have T0:=ae (show Two w ((w.alloc (bj a na ca b nb cb c nc cc)).alloc (bX r xa xn xc ya yn yc ra rn rc)) a na ca b nb cb c nc cc xa xn xc ya yn yc ra rn rc r A B C from⟨Ext.refl _,(h.ext (Ext.alloc _ _)).ext (Ext.alloc _ _),(h'.ext (Ext.alloc _ _)).ext (Ext.alloc _ _)⟩);have HV:=ae (ej T0.o.lp);rw[ok]at HV;obtain⟨st,rX,rY,rr,J,rp⟩:=r;obtain⟨v1,v2⟩:=J;simp only at h1 h2 h3;have e1:(st == 1)=false:=by simp;omega
 have e2:(st == 2)=false:=by simp;omega
 have e3:(st == 3)=false:=by simp;omega
 clear h h' h1 h2 h3;go_enter adt,ac'
 obtain⟨p0,p1,p2⟩:=T0.o.p;obtain⟨I,q1,q2,q3,q4,G⟩:=T0.o.q;go_wp2_with fail;refine HV.o.mono ?_;rintro e w1 ⟨rfl,hx⟩;have T1:=ae (T0.o.grow hx);clear hx p0 p1 p2 I q1 q2 q3 q4 G;obtain⟨p0,p1,p2⟩:=T1.o.p;obtain⟨I,q1,q2,q3,q4,G⟩:=T1.o.q;go_wp2_with fail;go_ret;exact⟨ag HE.o.symm,T1.o.all⟩
end
theorem mN{k1 k2:Int}{b:j6}{cap n' I:Nat}{A B:j4}(h:Rats w a n cap A)(h':Rats w b n' I B)(hbig:n<=1048576):
 Calls Tryz.prog 241 #[.slice a n cap,Aj k1 k2,.slice b n' I] w fun e w'=>(∃v,e=.returned (.tuple #[v,.bool (Bl A (k1,k2) B).isSome])/\o0 w' w.heap.size v ((Bl A (k1,k2) B).getD []))/\Ext w w':=by
 have HL:=ae h.hlen;have PX:=ae h'.hlen;have l9:=h.l9;have l8:=h.l8;have Ov:=h'.l9;have ON:=h'.l8;have HA:=ae h;have HB':=ae h';have HX:=ae (Ext.alloc w (.cells #[.int .i64 k1,.int .i64 k2] 62));clear h h';by_cases hne:n=n'
 ·subst hne;have HS:=ae (show Bl A (k1,k2) B=runT (Fo A (k1,k2) B) n by unfold Bl;rw[HL.o,PX.o,hI rfl]);have HO:=ae (o0.made (w.alloc (.cells #[.int .i64 k1,.int .i64 k2] 62)) (w.heap.size+1) e8);go_enter Tryz.func241,Tryz.ntmps241
  go_wp2_with fail
  go_loopg [8,9] n (fun gk o i wr=>∃(k:Nat) (a1:j6) (Z p1:Nat) (r:j4),b7 (gk+k=n)/\i=.int .i64 (k:Int)/\o=.slice a1 Z p1/\b7 (runT (Fo A (k1,k2) B) k=some r)/\b7 (o0 wr (w.heap.size+1) (.slice a1 Z p1) r)/\b7 (Ext (w.alloc (.cells #[.int .i64 k1,.int .i64 k2] 62)) wr))
  case atStart=>exact⟨0,_,_,_,[],ae e7,rfl,rfl,ae rfl,ae (by simpa using HO.o),ae (Ext.alloc _ _)⟩
  case round =>
   obtain⟨k,a1,Z,p1,r,HK,rfl,rfl,HR,zv,yZ⟩:=hrel;have F4:=yZ.o.size;rw[V4]at F4;by_cases hlt:k<n
   ·have Jy:wr.cell? ⟨w.heap.size,0,none⟩=some (.int .i64 k1):=yZ.o.j9 e8;have Jx:wr.cell? ⟨w.heap.size,1,none⟩=some (.int .i64 k2):=yZ.o.j9 e8;obtain⟨ab,BP,ax,ay,ha,K3,C9,C8⟩:=((HA.o.ext HX.o).ext yZ.o).at hlt;obtain⟨bb,Cp,bx,G,hb,BH,Ge,Gd⟩:=((HB'.o.ext HX.o).ext yZ.o).at hlt;subst ha hb;have HAX:=ae K3;have Au:=ae BH;obtain⟨p,q,one,hm⟩:∃p q ok,mulR (k1,k2) (bx,G)=((p,q),ok):=⟨_,_,_,rfl⟩;have HM:=ae hm;obtain⟨p2,q2,two,Hw⟩:∃u v ok,Ab (ax,ay) (p,q)=((u,v),ok):=⟨_,_,_,rfl⟩;have B6:=ae Hw;clear K3 BH hm Hw;go_upto_region 7 with fail
    go_cut [10,11] (fun sx so wx=>∃g:Nat,sx=.pointer (some ⟨g,0,none⟩)/\so=.bool one/\b7 (ah wr wx g p q))
    case first =>
     have k7:Ext wr wr.drew:=Ext.drew wr;have Q:Ext wr (wr.alloc (.cells #[.int .i64 0,.int .i64 0] 62)).drew:=(Ext.alloc _ _).trans (Ext.drew _);have k8:=ae (fun(w':World) (h:Ext wr w')=>(⟨h.j9 Jy,h.j9 Jx,h.j9 Ge,h.j9 Gd,h⟩:w'.cell? ⟨w.heap.size,0,none⟩=some (.int .i64 k1)/\w'.cell? ⟨w.heap.size,1,none⟩=some (.int .i64 k2)/\w'.cell? ⟨bb,Cp+k*2,none⟩=some (.int .i64 bx)/\w'.cell? ⟨bb,Cp+k*2+1,none⟩=some (.int .i64 G)/\Ext wr w'))
     go_region_held3 (fun w'=>w'.cell? ⟨w.heap.size,0,none⟩=some (.int .i64 k1)/\w'.cell? ⟨w.heap.size,1,none⟩=some (.int .i64 k2)/\w'.cell? ⟨bb,Cp+k*2,none⟩=some (.int .i64 bx)/\w'.cell? ⟨bb,Cp+k*2+1,none⟩=some (.int .i64 G)/\Ext wr w')
      (first
        | with_reducible exact k8.o _ k7
        | with_reducible exact k8.o _ Q
        | with_reducible exact k8.o _ ((k7.setCell (by first|(simp;done)|(simp;omega)) _).setCell (by first|(simp;done)|(simp;omega)) _)
        | with_reducible exact k8.o _ (k7.trans (Ext.alloc _ _))
        | with_reducible exact k8.o _ (q8.put _ _).ext)
      (first
        | (go_at_call 223
           (with_reducible refine(tH k1 k2 bx G _).mono ?_)
           rw[HM.o];rintro e w3 ⟨rfl,K⟩
           first|(with_reducible have q8:=ah.grow q8 K)|(with_reducible have q8:=ah.zu K)|(with_reducible have q8:=ah.zy k7 K)|skip
           first|(have Dy:=q8.c0;have Dx:=q8.c1;have Ev:=q8.free)|skip
           have k7:Ext wr w3:=by first|with_reducible exact k7.trans K|with_reducible exact Q.trans K|with_reducible exact(k7.trans (Ext.alloc _ _)).trans K
           have A0:=k7.size)
        | fail)
     all_goals(go_wp2_with fail;go_meet;first|exact⟨_,rfl,rfl,ae (q8.put _ _)⟩|exact⟨_,rfl,rfl,ae (ah.new k7 _ _)⟩|exact⟨_,rfl,rfl,ae (ah.new' k7 _ _ e8)⟩)
    obtain⟨g,rfl,rfl,O⟩:=hcut;have g0:=O.o.c0;have g1:=O.o.c1;replace C9:=O.o.ext.j9 C9;replace C8:=O.o.ext.j9 C8;clear Jy Jx Ge Gd;go_upto_region 8 with fail
    go_cut [12,13] (fun sx so wx=>∃g2:Nat,sx=.pointer (some ⟨g2,0,none⟩)/\so=.bool two/\b7 (ah wc wx g2 p2 q2))
    case first =>
     have k7:Ext wc wc.drew:=Ext.drew wc;have Q:Ext wc (wc.alloc (.cells #[.int .i64 0,.int .i64 0] 62)).drew:=(Ext.alloc _ _).trans (Ext.drew _);have k8:=ae (fun(w':World) (h:Ext wc w')=>(⟨h.j9 C9,h.j9 C8,h.j9 g0,h.j9 g1,h⟩:w'.cell? ⟨ab,BP+k*2,none⟩=some (.int .i64 ax)/\w'.cell? ⟨ab,BP+k*2+1,none⟩=some (.int .i64 ay)/\w'.cell? ⟨g,0,none⟩=some (.int .i64 p)/\w'.cell? ⟨g,1,none⟩=some (.int .i64 q)/\Ext wc w'))
     go_region_held3 (fun w'=>w'.cell? ⟨ab,BP+k*2,none⟩=some (.int .i64 ax)/\w'.cell? ⟨ab,BP+k*2+1,none⟩=some (.int .i64 ay)/\w'.cell? ⟨g,0,none⟩=some (.int .i64 p)/\w'.cell? ⟨g,1,none⟩=some (.int .i64 q)/\Ext wc w')
      (first
        | with_reducible exact k8.o _ k7
        | with_reducible exact k8.o _ Q
        | with_reducible exact k8.o _ ((k7.setCell (by first|(simp;done)|(simp;omega)) _).setCell (by first|(simp;done)|(simp;omega)) _)
        | with_reducible exact k8.o _ (k7.trans (Ext.alloc _ _))
        | with_reducible exact k8.o _ (q8.put _ _).ext)
      (first
        | (go_at_call 48
           (with_reducible refine(je ax ay p q _).mono ?_)
           rw[B6.o];rintro e w4 ⟨rfl,J⟩
           first|(with_reducible have q8:=ah.grow q8 J)|(with_reducible have q8:=ah.zu J)|(with_reducible have q8:=ah.zy k7 J)|skip
           first|(have Dy:=q8.c0;have Dx:=q8.c1;have Ev:=q8.free)|skip
           have k7:Ext wc w4:=by first|with_reducible exact k7.trans J|with_reducible exact Q.trans J|with_reducible exact(k7.trans (Ext.alloc _ _)).trans J
           have A0:=k7.size)
        | fail)
     all_goals(go_wp2_with fail;go_meet;first|exact⟨_,rfl,rfl,ae (q8.put _ _)⟩|exact⟨_,rfl,rfl,ae (ah.new k7 _ _)⟩|exact⟨_,rfl,rfl,ae (ah.new' k7 _ _ e8)⟩)
    obtain⟨g2,rfl,rfl,Ck⟩:=hcut;have X2:=ae ((yZ.o.trans O.o.ext).trans Ck.o.ext);have As:=ae ((zv.o.ext O.o.ext).ext Ck.o.ext);have h0:=Ck.o.c0;have h1:=Ck.o.c1;have HF:=ae (show Fo A (k1,k2) B k=if(one&&two)=true then some (p2,q2) else none by unfold Fo;rw[HAX.o,Au.o,HM.o];simp only;rw[B6.o];simp only[xf]);clear C9 C8 g0 g1;cases Gg:(one&&two)
    ·have HN:=ae (show runT (Fo A (k1,k2) B) n=none from im HR.o (by rw[HF.o,Gg];rfl) hlt);cases one
     case' true=>(have h2:two=false:=by simpa using Gg);subst h2
     all_goals
      clear Gg;go_wp2_with fail;have U:=X2.o.size;rw[V4]at U
      go_ret2
      exact⟨⟨_,fj (by rw[HS.o,HN.o];rfl),by rw[HS.o,HN.o];exact o0.made _ _ e7⟩,HX.o.trans (X2.o.trans (Ext.alloc _ _))⟩
    ·obtain⟨rfl,rfl⟩:one=true/\two=true:=by simpa using Gg
     have DA:=ae (eE (x:=(p2,q2)) HR.o (by rw[HF.o];rfl));have A1:=ae (dO HR.o);have G7:=X2.o.size;rw[V4]at G7;clear Gg
     go_wp2_with (first
      | (at_builtin;refine aM rfl _ _ rfl (w.heap.size+1) (.slice a1 Z p1) _ rfl (As.o.ext (Ext.alloc _ _)) _ 1 _ [(p2,q2)] rfl (Rats.one' _ _ _ _ _ e8) (by rw[A1.o];omega) (by simp;omega) ?_;intro v2 w4 ho hg k9;obtain⟨a2,n2,c2,rfl,Gu⟩:=ho.var;have Ar:=ae ho;have X5:=ae (ak (X2.o.trans (Ext.alloc _ _)) hg (fun j hj=>by have:=(As.o.lt j hj).1;simpa using this));clear ho hg k9))
     go_roundg (gk-1)
     case measure=>have:=HK.o;omega
     case rel=>exact⟨k+1,a2,n2,c2,_,ae (j1 HK.o),by go_num,rfl,DA,Ar,X5⟩
   ·have zQ:k=n:=by have:=HK.o;omega
    subst zQ;go_wp2_with fail
    go_ret2
    exact⟨⟨_,fj (by rw[HS.o,HR.o];rfl),by rw[HS.o,HR.o];exact zv.o.mono (Cj _)⟩,HX.o.trans yZ.o⟩
 ·have HN:=ae (show Bl A (k1,k2) B=none by unfold Bl;rw[HL.o,PX.o,hD hne]);go_enter Tryz.func241,Tryz.ntmps241
  go_wp2_with fail;have HO:=ae (o0.made (w.alloc (.cells #[.int .i64 k1,.int .i64 k2] 62)) w.heap.size e8)
  go_ret2
  exact⟨⟨_,fj (by rw[HN.o];rfl),by rw[HN.o];simpa using HO.o⟩,HX.o.trans (Ext.alloc _ _)⟩
theorem nM{cap:Nat}{l:j4}(h:Rats w a n cap l)(hb:n<=1099511627776):
 Calls Tryz.prog 109 #[.slice a n cap] w fun e w'=>(∃v,e=.returned v/\o0 w' w.heap.size v l)/\Ext w w':=by
 have HI:=ae (h.ext (Ext.alloc w (.cells #[] 62)));have HO:=ae (o0.made w w.heap.size (ao _));clear h;go_enter Tryz.func109,Tryz.ntmps109
 go_wp2_with (first|(at_builtin;refine aM rfl _ _ rfl w.heap.size _ _ rfl HO.o _ n _ l rfl HI.o (by simpa using hb) e8 ?_;intro v' w1 ho hg k9));go_ret;exact⟨⟨_,rfl,by simpa using ho⟩,ak (Ext.alloc _ _) hg (fun k hk=>aas (Og (show some w.heap.size=some k from hk)))⟩
theorem wW{k1 k2:Int}{cap:Nat}{A:j4}(h:Rats w a n cap A)(hbig:n<=1048576):
 Calls Tryz.prog 261 #[.slice a n cap,Aj k1 k2] w fun e w'=>(∃v,e=.returned (.tuple #[v,.bool (Dw A (k1,k2)).isSome])/\o0 w' w.heap.size v ((Dw A (k1,k2)).getD []))/\Ext w w':=by
 have HL:=ae h.hlen;have l9:=h.l9;have l8:=h.l8;have HA:=ae h;have HX:=ae (Ext.alloc w (.cells #[.int .i64 k1,.int .i64 k2] 62));have HS:=ae (show Dw A (k1,k2)=runT (Gk A (k1,k2)) n by unfold Dw;rw[h.hlen]);have HO:=ae (o0.made (w.alloc (.cells #[.int .i64 k1,.int .i64 k2] 62)) (w.heap.size+1) e8);clear h;go_enter Tryz.func261,Tryz.ntmps261
 go_wp2_with fail
 go_loopg [6,7] n (fun gk o i wr=>∃(k:Nat) (a1:j6) (I p1:Nat) (r:j4),b7 (gk+k=n)/\i=.int .i64 (k:Int)/\o=.slice a1 I p1/\b7 (runT (Gk A (k1,k2)) k=some r)/\b7 (o0 wr (w.heap.size+1) (.slice a1 I p1) r)/\b7 (Ext (w.alloc (.cells #[.int .i64 k1,.int .i64 k2] 62)) wr))
 case atStart=>exact⟨0,_,_,_,[],ae e7,rfl,rfl,ae rfl,ae (by simpa using HO.o),ae (Ext.alloc _ _)⟩
 case round =>
  obtain⟨k,a1,I,p1,r,Z,rfl,rfl,HR,zv,yZ⟩:=hrel;have F4:=yZ.o.size;rw[V4]at F4;by_cases hlt:k<n
  ·have Jy:wr.cell? ⟨w.heap.size,0,none⟩=some (.int .i64 k1):=yZ.o.j9 e8;have Jx:wr.cell? ⟨w.heap.size,1,none⟩=some (.int .i64 k2):=yZ.o.j9 e8;obtain⟨O,Q,K,J,ha,K3,C9,C8⟩:=((HA.o.ext HX.o).ext yZ.o).at hlt;subst ha;have HAX:=ae K3;obtain⟨p,q,one,hm⟩:∃p q ok,AW (K,J) (k1,k2)=((p,q),ok):=⟨_,_,_,rfl⟩;have HM:=ae hm;clear K3 hm;go_upto_region 5 with fail
   go_cut [8,9] (fun sx so wx=>∃g:Nat,sx=.pointer (some ⟨g,0,none⟩)/\so=.bool one/\b7 (ah wr wx g p q))
   case first =>
    have k7:Ext wr wr.drew:=Ext.drew wr;have zw:Ext wr (wr.alloc (.cells #[.int .i64 0,.int .i64 0] 62)).drew:=(Ext.alloc _ _).trans (Ext.drew _);have k8:=ae (fun(w':World) (h:Ext wr w')=>(⟨h.j9 Jy,h.j9 Jx,h.j9 C9,h.j9 C8,h⟩:w'.cell? ⟨w.heap.size,0,none⟩=some (.int .i64 k1)/\w'.cell? ⟨w.heap.size,1,none⟩=some (.int .i64 k2)/\w'.cell? ⟨O,Q+k*2,none⟩=some (.int .i64 K)/\w'.cell? ⟨O,Q+k*2+1,none⟩=some (.int .i64 J)/\Ext wr w'))
    go_region_held3 (fun w'=>w'.cell? ⟨w.heap.size,0,none⟩=some (.int .i64 k1)/\w'.cell? ⟨w.heap.size,1,none⟩=some (.int .i64 k2)/\w'.cell? ⟨O,Q+k*2,none⟩=some (.int .i64 K)/\w'.cell? ⟨O,Q+k*2+1,none⟩=some (.int .i64 J)/\Ext wr w')
     (first
       | with_reducible exact k8.o _ k7
       | with_reducible exact k8.o _ zw
       | with_reducible exact k8.o _ ((k7.setCell (by first|(simp;done)|(simp;omega)) _).setCell (by first|(simp;done)|(simp;omega)) _)
       | with_reducible exact k8.o _ (k7.trans (Ext.alloc _ _))
       | with_reducible exact k8.o _ (q8.put _ _).ext)
     (first
       | (go_at_call 242
          (with_reducible refine(tC K J k1 k2 _).mono ?_)
          rw[HM.o];rintro e w3 ⟨rfl,G⟩
          first|(with_reducible have q8:=ah.grow q8 G)|(with_reducible have q8:=ah.zu G)|(with_reducible have q8:=ah.zy k7 G)|skip
          first|(have Dy:=q8.c0;have Dx:=q8.c1;have Ev:=q8.free)|skip
          have k7:Ext wr w3:=by first|with_reducible exact k7.trans G|with_reducible exact zw.trans G|with_reducible exact(k7.trans (Ext.alloc _ _)).trans G
          have A0:=k7.size)
       | fail)
    all_goals(go_wp2_with fail;go_meet;first|exact⟨_,rfl,rfl,ae (q8.put _ _)⟩|exact⟨_,rfl,rfl,ae (ah.new k7 _ _)⟩|exact⟨_,rfl,rfl,ae (ah.new' k7 _ _ e8)⟩)
   obtain⟨g,rfl,rfl,U⟩:=hcut;have g0:=U.o.c0;have g1:=U.o.c1;have X2:=ae (yZ.o.trans U.o.ext);have As:=ae (zv.o.ext U.o.ext);have HF:=ae (show Gk A (k1,k2) k=if one=true then some (p,q) else none by unfold Gk;rw[HAX.o,HM.o]);have G7:=X2.o.size;rw[V4]at G7;clear Jy Jx C9 C8;cases one
   ·have HN:=ae (show runT (Gk A (k1,k2)) n=none from im HR.o (by rw[HF.o];rfl) hlt);go_wp2_with fail
    go_ret2
    exact⟨⟨_,fj (by rw[HS.o,HN.o];rfl),by rw[HS.o,HN.o];exact o0.made _ _ e7⟩,HX.o.trans (X2.o.trans (Ext.alloc _ _))⟩
   ·have DA:=ae (eE (x:=(p,q)) HR.o (by rw[HF.o];rfl));have A1:=ae (dO HR.o)
    go_wp2_with (first
     | (at_builtin;refine aM rfl _ _ rfl (w.heap.size+1) (.slice a1 I p1) _ rfl (As.o.ext (Ext.alloc _ _)) _ 1 _ [(p,q)] rfl (Rats.one' _ _ _ _ _ e8) (by rw[A1.o];omega) (by simp;omega) ?_;intro v2 w4 ho hg k9;obtain⟨a2,n2,c2,rfl,Gu⟩:=ho.var;have Ar:=ae ho;have X5:=ae (ak (X2.o.trans (Ext.alloc _ _)) hg (fun j hj=>by have:=(As.o.lt j hj).1;simpa using this));clear ho hg k9))
    go_roundg (gk-1)
    case measure=>have:=Z.o;omega
    case rel=>exact⟨k+1,a2,n2,c2,_,ae (j1 Z.o),by go_num,rfl,DA,Ar,X5⟩
  ·have zQ:k=n:=by have:=Z.o;omega
   subst zQ;go_wp2_with fail
   go_ret2
   exact⟨⟨_,fj (by rw[HS.o,HR.o];rfl),by rw[HS.o,HR.o];exact zv.o.mono (Cj _)⟩,HX.o.trans yZ.o⟩
section
variable{w:World}{ra:j6}{rn rc:Nat}{ba:j6}{bn bc:Nat}{t:Tb}{n m:Nat}{T0:Nat->Nat->Rat}
structure TbN(w:World)(ra:j6)(rn rc:Nat)(ba:j6)(bn bc:Nat)(t:Tb)(n m:Nat):Prop where
 tb:Hg w ra m rc ba m bc t
 rn:rn=m
 bn:bn=m
 r7:t.r7=n
theorem Ak.sizes(h:Ak n m T0 t)(hc:Hg w ra rn rc ba bn bc t):rn=m/\bn=m:=⟨by rw[<-hc.rows.hlen];exact h.len,by rw[<-hc.basis.hlen];exact h.De⟩
theorem ky(h:Hg w ra m rc ba m bc t)(hT:Ak n m T0 t)(hn:n<=1000)(hm:m<=1000):
 Calls Tryz.prog 220 #[Gw ra m rc ba m bc (n:Int)] w fun e w'=>e=.returned (.bool true)/\Ext w w':=by
 have y9:=Ext.alloc w (cj ra m rc ba m bc (n:Int));have y7:=ae y9;have H:=ae (h.ext y9);have zf:=ae (show(w.alloc (cj ra m rc ba m bc (n:Int))).heap[w.heap.size]?=some (.cells #[.slice ra m rc,.slice ba m bc,.int .i64 (n:Int)] 116 (0,0))from ai _ _ _ rfl);have h1:=h.rows.l8;have h2:=h.rows.l9;have h3:=h.basis.l8;have h4:=h.basis.l9;have HT:=ae hT;clear h hT y9;have Ip:¬(n:Int)<0:=by omega
 have B1:¬(n:Int) > 1000:=by omega
 have Ot:((m:Int) != (m:Int))=false:=by simp
 go_enter Tryz.func220,Tryz.ntmps220
 go_wp2_with fail
 go_loopg [4] m (fun gk ii wr=>∃k:Nat,b7 (gk+k=m)/\ii=.int .i64 (k:Int)/\b7 (Ext (w.alloc (cj ra m rc ba m bc (n:Int))) wr))
 case atStart=>exact⟨0,ae e7,rfl,ae (Ext.refl _)⟩
 case round =>
  obtain⟨g1,o7⟩:=b9 gk;subst o7;obtain⟨G,o5⟩:=b9 wr;subst o5;obtain⟨k,Z,rfl,HX⟩:=hrel;have p0:=am (HX.o.blk zf.o);have p1:=aD (HX.o.blk zf.o);have p2:=aG (HX.o.blk zf.o);by_cases hlt:k<m
  ·obtain⟨O,Q,ya,yn,yc,Dp,AU,o8⟩:=(H.o.ext HX.o).rows.at hlt;subst Dp;have Em:yn=n+m+1:=by rw[<-o8.hlen];exact(HT.o.row k hlt).1
   have An:=o8.l8;have EU:=o8.l9;obtain⟨U,J,DT,AV⟩:=(H.o.ext HX.o).basis.at hlt;subst DT;obtain⟨I,H6⟩:=b9 (t.basis[k]?.getD 0);rw[<-H6]at AV;have GC:0<=I/\I<n+m:=by
    rw[H6,bk (by rw[HT.o.De];exact hlt)];exact HT.o.R7 _ (vl _)
   have Ja:=ae (fun w'=>aZ I 0 ((n:Int)+(m:Int)-1) w');rw[show r9 I 0 ((n:Int)+(m:Int)-1)=true by unfold r9;simp;omega]at Ja;have GX:IntKind.i64.wrap ((n:Int)+(m:Int))=(n:Int)+(m:Int):=by rw[cn];omega
   have Ch:IntKind.i64.wrap ((n:Int)+(m:Int)+1)=(n:Int)+(m:Int)+1:=by rw[cn];omega
   have Gx:IntKind.i64.wrap ((n:Int)+(m:Int)-1)=(n:Int)+(m:Int)-1:=by rw[cn];omega
   have JW:((yn:Int) != (n:Int)+(m:Int)+1)=false:=by simp;omega
   have Fu:(0:Int)<=(k:Int):=by omega
   have BR:(k:Int)<(m:Int):=by omega
   clear o8 Em H6 GC;go_upto_region 7 with fail;have k7:Ext G G.drew:=Ext.drew G;have k8:=ae (fun(w':World) (h:Ext G w')=>(⟨h.j9 p0,h.j9 p1,h.j9 p2,h.j9 AU,h.j9 AV,h⟩:w'.cell? ⟨w.heap.size,0,none⟩=some (.slice (some ⟨O,Q,none⟩) m rc)/\w'.cell? ⟨w.heap.size,1,none⟩=some (.slice (some ⟨U,J,none⟩) m bc)/\w'.cell? ⟨w.heap.size,2,none⟩=some (.int .i64 (n:Int))/\w'.cell? ⟨O,Q+k,none⟩=some (.slice ya yn yc)/\w'.cell? ⟨U,J+k,none⟩=some (.int .i64 I)/\Ext G w'));refine rN (S:=(fun w'=>w'.cell? ⟨w.heap.size,0,none⟩=some (.slice (some ⟨O,Q,none⟩) m rc)/\w'.cell? ⟨w.heap.size,1,none⟩=some (.slice (some ⟨U,J,none⟩) m bc)/\w'.cell? ⟨w.heap.size,2,none⟩=some (.int .i64 (n:Int))/\w'.cell? ⟨O,Q+k,none⟩=some (.slice ya yn yc)/\w'.cell? ⟨U,J+k,none⟩=some (.int .i64 I)/\Ext G w')) e9 ?_ (fun l7=>?_)
   ·exact k8.o _ k7
   refine tk 0 ?_;refine tk 1 ?_;refine tk 2 ?_;refine tk 3 ?_;refine tk 4 ?_;refine tk 5 ?_;refine tk 6 ?_;refine tk 7 ?_;refine tk 8 ?_;refine tk 9 ?_;refine tk 10 ?_;refine tk 11 ?_;refine tk 12 ?_;refine tk 13 ?_;refine tk 14 ?_;refine tk 15 ?_;refine tk 16 ?_;refine tk 17 ?_;refine tk 18 ?_;refine tk 19 ?_;refine tk 20 ?_;refine tk 21 ?_;refine tk 22 ?_;refine rd (i:=23) (h:=fun K hK=>?_);go_simp
   (go_at_call 45;refine(Ja.o _).mono ?_;rintro e w3 ⟨rfl,rfl⟩)
   go_wp2_with fail;refine hK.out _ _ ?_ (fun l7=>?_)
   ·exact k8.o _ k7
   clear hK K
   try simp only[Act.put,sA,sB,sC]
   refine tk 24 ?_;refine tk 25 ?_;refine Gh e9 ?_ _;have zt:=ae (HX.o.trans k7);clear GX Ch Gx JW p0 p1 p2 AU AV;go_wp2_with fail
   go_roundg (g1-1)
   case measure=>have:=Z.o;omega
   case rel=>exact⟨k+1,ae (j1 Z.o),by go_num,zt⟩
  ·have Cr:m=k:=by have:=Z.o;omega
   subst Cr;go_wp2_with fail;go_ret;exact⟨rfl,y7.o.trans HX.o⟩
end
theorem nL(x y:Int)(w:World):Calls Tryz.prog 167 #[Aj x y] w fun e w'=>e=.returned (.int .i64 (zV (x,y) (0,1)))/\Ext w w':=by
 obtain⟨W,hW⟩:=b9 (w.alloc (.cells #[.int .i64 x,.int .i64 y] 62));have HX:=ae (show Ext w W by rw[hW];exact Ext.alloc _ _);have c0:W.cell? ⟨w.heap.size,0,none⟩=some (.int .i64 x):=by rw[hW];simp
 have c1:W.cell? ⟨w.heap.size,1,none⟩=some (.int .i64 y):=by rw[hW];simp
 go_enter Tryz.func167,Tryz.ntmps167
 go_upto_region 1 with fail;rw[<-hW];clear hW;have k7:Ext W W.drew:=Ext.drew W;have G:=k7;have k8:=ae (fun(w':World) (h:Ext W w')=>(⟨h.j9 c0,h.j9 c1,h⟩:w'.cell? ⟨w.heap.size,0,none⟩=some (.int .i64 x)/\w'.cell? ⟨w.heap.size,1,none⟩=some (.int .i64 y)/\Ext W w'))
 go_region_held3 (fun w'=>w'.cell? ⟨w.heap.size,0,none⟩=some (.int .i64 x)/\w'.cell? ⟨w.heap.size,1,none⟩=some (.int .i64 y)/\Ext W w')
  (with_reducible exact k8.o _ k7)
  (first
    | (go_at_call 49
       (with_reducible refine(cO 0 _).mono ?_)
       rintro e w3 ⟨rfl,J⟩;have k7:Ext W w3:=k7.trans J
       have F5:=k7.size)
    | (go_at_call 219
       (with_reducible refine(jf x y 0 1 _).mono ?_)
       rintro e w4 ⟨rfl,I⟩;have k7:Ext W w4:=k7.trans I
       have Hv:=k7.size)
    | fail)
 clear k8 G;go_wp2_with fail;go_ret;exact⟨rfl,HX.o.trans k7⟩
theorem nI{ra:j6}{rn rc:Nat}{ba:j6}{bn bc:Nat}{x:Int}{cap:Nat}{costs:j4}(h:Rats w a n cap costs)(m:Nat)(hm:m<=n):
 Calls Tryz.prog 216 #[Gw ra rn rc ba bn bc x,.slice a n cap,.int .i64 (m:Int)] w fun e w'=>e=.returned (.int .i64 (bz costs m))/\Ext w w':=by
 have y9:=Ext.alloc w (cj ra rn rc ba bn bc x);have y7:=ae y9;have H:=ae (h.ext y9);have Ba:=h.l8;have CY:=h.l9;have HL:=ae h.hlen;clear h y9;have hle:(m:Int)<=(n:Int):=by omega
 go_enter Tryz.func216,Tryz.ntmps216
 go_wp2_with fail
 go_loopg [7] m (fun gk ii wr=>∃k:Nat,b7 (gk+k=m)/\ii=.int .i64 (k:Int)/\b7 ((costs.take k).all (fun c=>!fw c)=true)/\b7 (Ext (w.alloc (cj ra rn rc ba bn bc x)) wr))
 case atStart=>exact⟨0,ae e7,rfl,ae rfl,ae (Ext.refl _)⟩
 case round =>
  obtain⟨g1,Q⟩:=b9 gk;subst Q;obtain⟨U,Z⟩:=b9 wr;subst Z;obtain⟨k,G,rfl,HA,HX⟩:=hrel;by_cases hlt:k<m
  ·have K:k<n:=by omega
   obtain⟨zb,zL,p,q,Dp,J,AU,Fq⟩:=(H.o.ext HX.o).at K;subst Dp;have Ay:=ae J;have HS:=ae (nL p q U);obtain⟨O,I⟩:=b9 (zV (p,q) (0,1));have Eh:=ae (show fw (p,q)=decide (O<0)by rw[I];rfl);rw[<-I]at HS;clear J I;by_cases DR:O<0
   ·have HR:=ae (show bz costs m=k from qp (by rw[HL.o];omega) hlt HA.o (by rw[Ay.o,Eh.o,z' DR]));go_wp2_with fail;refine HS.o.mono ?_;rintro e w3 ⟨rfl,hx⟩;have X3:=ae (HX.o.trans hx);clear hx;go_wp2_with fail;go_ret;exact⟨ap HR.o.symm,y7.o.trans X3.o⟩
   ·have HT:=ae (ms (by rw[HL.o];exact K) Ay.o HA.o (by rw[Eh.o,u' DR]));go_wp2_with fail;refine HS.o.mono ?_;rintro e w3 ⟨rfl,hx⟩;have X3:=ae (HX.o.trans hx);clear hx;go_wp2_with fail
    go_roundg (g1-1)
    case measure=>have:=G.o;omega
    case rel=>exact⟨k+1,ae (j1 G.o),by go_num,HT,X3⟩
  ·have Cr:m=k:=by have:=G.o;omega
   subst Cr;have HR:=ae (show bz costs m=-1 from mt (by rw[HL.o];omega) HA.o);go_wp2_with fail;go_ret;exact⟨ap HR.o.symm,y7.o.trans HX.o⟩
section
variable{w:World}{ra:j6}{rc:Nat}{ba:j6}{bc:Nat}{t:Tb}{n m:Nat}{T0:Nat->Nat->Rat}
theorem tG(h:Hg w ra m rc ba m bc t)(K:Ak n m T0 t)(hn:n<=1000)(hm:m<=1000){c:Nat}(hc:c<n):
 Calls Tryz.prog 217 #[Gw ra m rc ba m bc (n:Int),.int .i64 (c:Int)] w fun e w'=>e=.returned (.int .i64 (cW t (c:Int)))/\Ext w w':=by
 have y9:=Ext.alloc w (cj ra m rc ba m bc (n:Int));have y7:=ae y9;have H:=ae (h.ext y9);have zf:=ae (show(w.alloc (cj ra m rc ba m bc (n:Int))).heap[w.heap.size]?=some (.cells #[.slice ra m rc,.slice ba m bc,.int .i64 (n:Int)] 116 (0,0))from ai _ _ _ rfl);have AX:=h.rows.l8;have B9:=h.rows.l9;have AS:=h.basis.l8;have AD:=h.basis.l9;have HT:=ae K
 have HR:=ae (show cW t (c:Int)=(cg t c m).1 by
  unfold cW
  rw[hI (by rw[K.ok hn,K.r7,K.len];simp[r9];omega),K.len,CI])
 have HG:=ae (ky H.o K hn hm);obtain⟨u,hu⟩:=b9 (n+m);have HU:=ae (show u=t.r7.toNat+t.rows.length by rw[K.r7,K.len,CI];exact hu);have WV:=ae hu;have Ja:=ae (fun w'=>aZ (c:Int) 0 ((n:Int)+(m:Int)-1) w');rw[show r9 (c:Int) 0 ((n:Int)+(m:Int)-1)=true by unfold r9;simp;omega]at Ja;have GX:IntKind.i64.wrap ((n:Int)+(m:Int))=(n:Int)+(m:Int):=by rw[cn];omega
 have Gx:IntKind.i64.wrap ((n:Int)+(m:Int)-1)=(n:Int)+(m:Int)-1:=by rw[cn];omega
 clear h K y9 hu;go_enter Tryz.func217,Tryz.ntmps217
 go_upto_region 1 with fail;obtain⟨W,hW⟩:=b9 (w.alloc (cj ra m rc ba m bc (n:Int)));rw[<-hW]at y7 H zf HG;rw[<-hW];clear hW;have p0:=am zf.o;have p1:=aD zf.o;have p2:=aG zf.o;go_wp2_with fail;refine HG.o.mono ?_;rintro e w1 ⟨rfl,hx⟩;have X1:=ae hx;clear hx p0 p1 p2;have p0:=am (X1.o.blk zf.o);have p2:=aG (X1.o.blk zf.o);have EO:=ae (ah.new (Ext.refl w1) 0 0);go_wp2_with (first|(go_at_call 45;refine(Ja.o _).mono ?_;rintro e w2 ⟨rfl,rfl⟩));clear Gx
 go_loopg [5,7] m (fun gk bst ii wr=>∃(k:Nat) (st l1 l2:Int),b7 (gk+k=m)/\ii=.int .i64 (k:Int)/\bst=.int .i64 st/\b7 (cg t c k=(st,(l1,l2)))/\b7 (ah w1 wr w1.heap.size l1 l2))
 case atStart=>exact⟨0,-1,0,0,ae e7,rfl,rfl,ae rfl,EO⟩
 case round =>
  obtain⟨g1,o7⟩:=b9 gk;subst o7;obtain⟨o6,o5⟩:=b9 wr;subst o5;obtain⟨k,st,l1,l2,Q,rfl,rfl,HL,HB⟩:=hrel;have XR:=ae (X1.o.trans HB.o.ext);clear p0 p2;have p0:=am (XR.o.blk zf.o);by_cases hlt:k<m
  ·obtain⟨zb,zL,za,zn,zc,Dp,AU,o8⟩:=(H.o.ext XR.o).rows.at hlt;subst Dp;have Lp:zn=u+1:=by rw[<-o8.hlen,WV.o];exact(HT.o.row k hlt).1
   have HZN:=ae Lp;have Io:=o8.l8;have Yo:=o8.l9;have CA:=ae o8;have hcz:c<zn:=by have:=WV.o;omega
   obtain⟨yb,zE,p,q,ET,zR,BG,An⟩:=o8.at hcz;subst ET;have Ay:=ae (show t.at k c=(p,q)from zR);have hczI:(c:Int)<(zn:Int):=by omega
   clear zR o8 Lp;obtain⟨E,hE⟩:=b9 (o6.alloc (.cells #[.int .i64 p,.int .i64 q] 62));obtain⟨gp,RH⟩:=b9 o6.heap.size;have B0:Ext o6 E:=by rw[hE];exact Ext.alloc _ _
   have IT:=ae (show ah o6 E gp p q by rw[hE,RH];exact ah.new (Ext.refl _) _ _);have Je:=ae (HB.o.grow B0);go_upto_region 9 with fail;rw[<-hE,<-RH];clear hE RH B0 p0 AU BG An;have XE:=ae (X1.o.trans Je.o.ext);have p0:=am (XE.o.blk zf.o);have p2:=aG (XE.o.blk zf.o);obtain⟨zb',MF,za',Wa,zc',F0,AU,Jt⟩:=(H.o.ext XE.o).rows.at hlt;simp only[bA,mq,zz]at F0;obtain⟨rfl,rfl⟩:=F0;have XI:Wa=u+1:=by rw[<-Jt.hlen,WV.o];exact(HT.o.row k hlt).1
   have HZN':=ae XI;obtain⟨ub,Ka,p',q',hua,Oi,Lq,N1⟩:=Jt.at (show u<Wa by omega);subst hua;have hrc':=Jt.l8;have hrm':=Jt.l9;have Z4:=ae (show t.at k u=(p',q')from Oi);have e0:=IT.o.c0;have e1:=IT.o.c1;obtain⟨d1,d2,Fz,hdd⟩:∃x y ok,AW (p',q') (p,q)=((x,y),ok):=⟨_,_,_,rfl⟩;have EH:=ae hdd;have Qe:IntKind.i64.wrap ((n:Int)+(m:Int))=(u:Int):=by have:=WV.o;rw[cn];omega
   have Mk:(0:Int)<=(u:Int):=by omega
   have GY:(u:Int)<(Wa:Int):=by omega
   have Fu:(0:Int)<=(k:Int):=by omega
   have BR:(k:Int)<(m:Int):=by omega
   clear Oi hdd Jt XI GX;go_upto_region 9 with fail
   go_cut [9,10] (fun sx so wx=>∃g:Nat,sx=.pointer (some ⟨g,0,none⟩)/\so=.bool Fz/\b7 (ah E wx g d1 d2))
   case first =>
    have k7:Ext E E.drew:=Ext.drew E;have zw:Ext E (E.alloc (.cells #[.int .i64 0,.int .i64 0] 62)).drew:=(Ext.alloc _ _).trans (Ext.drew _);have k8:=ae (fun(w':World) (h:Ext E w')=>(⟨h.j9 p0,h.j9 p2,h.j9 AU,h.j9 Lq,h.j9 N1,h.j9 e0,h.j9 e1,h⟩:w'.cell? ⟨w.heap.size,0,none⟩=some (.slice (some ⟨zb,zL,none⟩) m rc)/\w'.cell? ⟨w.heap.size,2,none⟩=some (.int .i64 (n:Int))/\w'.cell? ⟨zb,zL+k,none⟩=some (.slice (some ⟨ub,Ka,none⟩) Wa zc')/\w'.cell? ⟨ub,Ka+u*2,none⟩=some (.int .i64 p')/\w'.cell? ⟨ub,Ka+u*2+1,none⟩=some (.int .i64 q')/\w'.cell? ⟨gp,0,none⟩=some (.int .i64 p)/\w'.cell? ⟨gp,1,none⟩=some (.int .i64 q)/\Ext E w'))
    go_region_held3 (fun w'=>w'.cell? ⟨w.heap.size,0,none⟩=some (.slice (some ⟨zb,zL,none⟩) m rc)/\w'.cell? ⟨w.heap.size,2,none⟩=some (.int .i64 (n:Int))/\w'.cell? ⟨zb,zL+k,none⟩=some (.slice (some ⟨ub,Ka,none⟩) Wa zc')/\w'.cell? ⟨ub,Ka+u*2,none⟩=some (.int .i64 p')/\w'.cell? ⟨ub,Ka+u*2+1,none⟩=some (.int .i64 q')/\w'.cell? ⟨gp,0,none⟩=some (.int .i64 p)/\w'.cell? ⟨gp,1,none⟩=some (.int .i64 q)/\Ext E w')
     (first
       | with_reducible exact k8.o _ k7
       | with_reducible exact k8.o _ zw
       | with_reducible exact k8.o _ ((k7.setCell (by first|(simp;done)|(simp;omega)) _).setCell (by first|(simp;done)|(simp;omega)) _)
       | with_reducible exact k8.o _ (k7.trans (Ext.alloc _ _))
       | with_reducible exact k8.o _ (q8.put _ _).ext)
     (first
       | (go_at_call 242
          (with_reducible refine(tC p' q' p q _).mono ?_)
          rw[EH.o];rintro e w5 ⟨rfl,zh⟩
          first|(with_reducible have q8:=ah.grow q8 zh)|(with_reducible have q8:=ah.zu zh)|(with_reducible have q8:=ah.zy k7 zh)|skip
          first|(have Dy:=q8.c0;have Dx:=q8.c1;have Ev:=q8.free)|skip
          have k7:Ext E w5:=by first|with_reducible exact k7.trans zh|with_reducible exact zw.trans zh|with_reducible exact(k7.trans (Ext.alloc _ _)).trans zh
          have A0:=k7.size)
       | fail)
    all_goals(go_wp2_with fail;go_meet;first|exact⟨_,rfl,rfl,ae (q8.put _ _)⟩|exact⟨_,rfl,rfl,ae (ah.new k7 _ _)⟩|exact⟨_,rfl,rfl,ae (ah.new' k7 _ _ e8)⟩)
   obtain⟨g,rfl,rfl,Ad⟩:=hcut;clear Qe Mk GY p0 p2 AU Lq N1 e0 e1;have P':=ae (Je.o.grow Ad.o.ext);have Z:=ae (IT.o.grow Ad.o.ext);have e0:=Z.o.c0;have e1:=Z.o.c1;have HS:=ae (nL p q wc);obtain⟨sg,DQ⟩:=b9 (zV (p,q) (0,1));have Eh:=ae DQ;rw[<-DQ]at HS;clear DQ;by_cases DR:sg<=0
   ·have AT:=ae (show cg t c (k+1)=(st,(l1,l2))by
     show dW _ c (cg _ c k) k=_
     rw[HL.o];exact sO Ay.o (by rw[<-Eh.o];exact DR))
    go_wp2_with fail;refine HS.o.mono ?_;rintro e w3 ⟨rfl,hx⟩;have A6:=ae (P'.o.grow hx);clear hx;go_wp2_with fail
    go_roundg (g1-1)
    case measure=>have:=Q.o;omega
    case rel=>exact⟨k+1,st,l1,l2,ae (j1 Q.o),by go_num,rfl,AT,A6⟩
   ·have J5:=ae DR;cases Fz
    ·have AT:=ae (show cg t c (k+1)=(st,(l1,l2))by
      show dW _ c (cg _ c k) k=_
      rw[HL.o];exact sP HU.o Ay.o Z4.o (by rw[<-Eh.o];have:=J5.o;omega) (by rw[EH.o]))
     go_wp2_with fail;refine HS.o.mono ?_;rintro e w3 ⟨rfl,hx⟩;have A6:=ae (P'.o.grow hx);clear hx;go_wp2_with fail
     go_roundg (g1-1)
     case measure=>have:=Q.o;omega
     case rel=>exact⟨k+1,st,l1,l2,ae (j1 Q.o),by go_num,rfl,AT,A6⟩
    ·go_wp2_with fail;refine HS.o.mono ?_;rintro e w3 ⟨rfl,hx⟩;have A6:=ae (P'.o.grow hx);have Xi:=ae (Ad.o.grow hx);have g0:=Xi.o.c0;have g1':=Xi.o.c1;have b0:=A6.o.c0;have b1:=A6.o.c1;have FI:=ae (jf d1 d2 l1 l2 w3);obtain⟨cc,I⟩:=b9 (zV (d1,d2) (l1,l2));have Ll:=ae I;rw[<-I]at FI;clear I hx e0 e1;go_wp2_with fail;refine FI.o.mono ?_;rintro e w6 ⟨rfl,hx⟩;have Ie:=ae (A6.o.grow hx);have Tz:=ae (Xi.o.grow hx);clear hx g0 g1' b0 b1;have X6:=ae (X1.o.trans Ie.o.ext);have c1:=aD (X6.o.blk zf.o);obtain⟨O,J,DT,AV⟩:=(H.o.ext X6.o).basis.at hlt;subst DT;obtain⟨bi,B3⟩:=b9 (t.basis[k]?.getD 0);have KP:=ae B3;rw[<-B3]at AV;clear B3;have FT:=ae (jz t c k)
     have HUP:=ae (fun G (Bg:t.basis[st.toNat]?.getD 0=G)=>show cg t c (k+1)=if DM st cc bi G=true then((k:Int),(d1,d2)) else(st,(l1,l2))by
      show dW _ c (cg _ c k) k=_;rw[HL.o,Ll.o]
      exact sQ HU.o Ay.o Z4.o (by rw[<-Eh.o];have:=J5.o;omega) EH.o KP.o.symm Bg)
     go_upto_region 12 with fail
     go_cut [93] (fun s82 wx=>∃G:Int,s82=.bool (DM st cc bi G)/\b7 (t.basis[st.toNat]?.getD 0=G)/\b7 (Ext w6 wx))
     case first =>
      have k7:Ext w6 w6.drew:=Ext.drew w6;by_cases hst:st<0
      ·have FP:decide (st<0)=true:=z' hst;refine rN (S:=(fun w'=>w'.cell? ⟨w.heap.size,1,none⟩=some (.slice (some ⟨O,J,none⟩) m bc)/\w'.cell? ⟨O,J+k,none⟩=some (.int .i64 bi)/\Ext w6 w')) e9 ?_ (fun l7=>?_)
       ·exact⟨k7.j9 c1,k7.j9 AV,k7⟩
       refine tk 0 ?_;refine tk 1 ?_;refine tk 2 ?_;refine sk 3 ?_;refine sk 4 ?_;refine tk 5 ?_;refine tk 6 ?_;refine sk 7 ?_;refine sk 8 ?_;refine sk 9 ?_;refine sk 10 ?_;refine sk 11 ?_;refine sk 12 ?_;refine sk 13 ?_;refine sk 14 ?_;refine sk 15 ?_;refine sk 16 ?_;refine sk 17 ?_;refine sk 18 ?_;refine sk 19 ?_;refine sk 20 ?_;refine sk 21 ?_;refine tk 22 ?_;refine Gh e9 ?_ _;go_wp2_with fail;go_meet;exact⟨_,by unfold DM;rw[FP];rfl,ae rfl,ae k7⟩
      ·have FP:decide (st<0)=false:=u' e7;obtain⟨U,rfl⟩:∃U:Nat,st=U:=⟨st.toNat,by omega⟩;have Ob:U<m:=by have:=FT.o;rw[HL.o]at this;simp only at this;omega
       obtain⟨fb,Gj,UO,OE⟩:=(H.o.ext X6.o).basis.at Ob;simp only[bA,mq,zz]at UO;obtain⟨rfl,rfl⟩:=UO;obtain⟨G,Bg⟩:=b9 (t.basis[U]?.getD 0);have DC:=ae (show t.basis[Int.toNat (U:Int)]?.getD 0=G by rw[CI,Bg]);rw[<-Bg]at OE;have hs0':(0:Int)<=(U:Int):=by omega
       have Yl:(U:Int)<(m:Int):=by omega
       clear Bg;by_cases I:cc<0
       ·have Ir:decide (cc<0)=true:=z' I;refine rN (S:=(fun w'=>w'.cell? ⟨w.heap.size,1,none⟩=some (.slice (some ⟨O,J,none⟩) m bc)/\w'.cell? ⟨O,J+k,none⟩=some (.int .i64 bi)/\Ext w6 w')) e9 ?_ (fun l7=>?_)
        ·exact⟨k7.j9 c1,k7.j9 AV,k7⟩
        refine tk 0 ?_;refine tk 1 ?_;refine tk 2 ?_;refine tk 3 ?_;refine tk 4 ?_;refine tk 5 ?_;refine tk 6 ?_;refine sk 7 ?_;refine sk 8 ?_;refine sk 9 ?_;refine sk 10 ?_;refine sk 11 ?_;refine sk 12 ?_;refine sk 13 ?_;refine sk 14 ?_;refine sk 15 ?_;refine sk 16 ?_;refine sk 17 ?_;refine sk 18 ?_;refine sk 19 ?_;refine sk 20 ?_;refine sk 21 ?_;refine tk 22 ?_;refine Gh e9 ?_ _;go_wp2_with fail;go_meet;exact⟨G,by unfold DM;rw[FP,Ir];rfl,DC,ae k7⟩
       ·have Ir:decide (cc<0)=false:=u' e7;by_cases AB:cc=0
        ·subst AB;refine rN (S:=(fun w'=>w'.cell? ⟨w.heap.size,1,none⟩=some (.slice (some ⟨O,J,none⟩) m bc)/\w'.cell? ⟨O,J+k,none⟩=some (.int .i64 bi)/\w'.cell? ⟨O,J+U,none⟩=some (.int .i64 G)/\Ext w6 w')) e9 ?_ (fun l7=>?_)
         ·exact⟨k7.j9 c1,k7.j9 AV,k7.j9 OE,k7⟩
         refine tk 0 ?_;refine tk 1 ?_;refine tk 2 ?_;refine tk 3 ?_;refine tk 4 ?_;refine tk 5 ?_;refine tk 6 ?_;refine tk 7 ?_;refine tk 8 ?_;refine tk 9 ?_;refine tk 10 ?_;refine tk 11 ?_;refine tk 12 ?_;refine tk 13 ?_;refine tk 14 ?_;refine tk 15 ?_;refine tk 16 ?_;refine tk 17 ?_;refine tk 18 ?_;refine tk 19 ?_;refine tk 20 ?_;refine tk 21 ?_;refine tk 22 ?_;refine Gh e9 ?_ _;go_wp2_with fail;go_meet;exact⟨G,by unfold DM;rw[FP];rfl,DC,ae k7⟩
        ·have RO:(cc == 0)=false:=by simp;omega
         refine rN (S:=(fun w'=>w'.cell? ⟨w.heap.size,1,none⟩=some (.slice (some ⟨O,J,none⟩) m bc)/\w'.cell? ⟨O,J+k,none⟩=some (.int .i64 bi)/\Ext w6 w')) e9 ?_ (fun l7=>?_)
         ·exact⟨k7.j9 c1,k7.j9 AV,k7⟩
         refine tk 0 ?_;refine tk 1 ?_;refine tk 2 ?_;refine tk 3 ?_;refine tk 4 ?_;refine tk 5 ?_;refine tk 6 ?_;refine tk 7 ?_;refine tk 8 ?_;refine tk 9 ?_;refine sk 10 ?_;refine sk 11 ?_;refine sk 12 ?_;refine sk 13 ?_;refine sk 14 ?_;refine sk 15 ?_;refine sk 16 ?_;refine sk 17 ?_;refine sk 18 ?_;refine sk 19 ?_;refine sk 20 ?_;refine tk 21 ?_;refine tk 22 ?_;refine Gh e9 ?_ _;go_wp2_with fail;go_meet;exact⟨G,by unfold DM;rw[FP,Ir,u' AB];rfl,DC,ae k7⟩
     obtain⟨G,rfl,DC,Vz⟩:=hcut;have Fb:=ae (Ie.o.grow Vz.o);have PZ:=ae (Tz.o.grow Vz.o);have ZQ:=ae (HUP.o G DC.o);clear c1 AV;cases N6:DM st cc bi G
     ·have AT:=ae (show cg t c (k+1)=(st,(l1,l2))by rw[ZQ.o,N6];rfl);go_wp2_with fail
      go_roundg (g1-1)
      case measure=>have:=Q.o;omega
      case rel=>exact⟨k+1,st,l1,l2,ae (j1 Q.o),by go_num,rfl,AT,Fb⟩
     ·have AT:=ae (show cg t c (k+1)=((k:Int),(d1,d2))by rw[ZQ.o,N6];rfl);have g0:=PZ.o.c0;have g1':=PZ.o.c1;have b0:=Fb.o.c0;have b1:=Fb.o.c1;have bf:=Fb.o.free;have QJ:=ae (Fb.o.put d1 d2);go_wp2_with fail
      go_roundg (g1-1)
      case measure=>have:=Q.o;omega
      case rel=>exact⟨k+1,(k:Int),d1,d2,ae (j1 Q.o),by go_num,rfl,AT,QJ⟩
  ·have zQ:m=k:=by have:=Q.o;omega
   subst zQ;have HY:=ae (show cW t (c:Int)=st by rw[HR.o,HL.o]);go_wp2_with fail;go_ret;exact⟨ap HY.o.symm,y7.o.trans XR.o⟩
end
